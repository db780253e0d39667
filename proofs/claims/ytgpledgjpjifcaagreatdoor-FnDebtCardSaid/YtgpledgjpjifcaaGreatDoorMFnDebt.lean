/- For every draw: debts, ledgers and postings are recovered from their text; the tied card. -/
import Derived.Test.YtgpledgjpjifcaaGreatDoorRows
import Derived.Test.YtgpledgjpjifcaaGreatDoorStrs
import Derived.Test.YtgpledgjpjifcaaGreatDoorNumP
import Derived.Test.YtgpledgjpjifcaaGreatDoorTxtP
import Derived.Deep.AppendLies
import Derived.Test.YtgpledgjpjifcaaGreatDoorNumI
import Derived.Test.YtgpledgjpjifcaaGreatDoorStr
import Derived.Test.YtgpledgjpjifcaaGreatDoorDebtF
import Derived.Test.YtgpledgjpjifcaaGreatDoorTxtL
import Derived.Deep.RegionHeld3
import Derived.Test.YtgpledgjpjifcaaGreatDoorApp
import Derived.Test.YtgpledgjpjifcaaGreatDoorDrawDs
import Derived.Test.YtgpledgjpjifcaaGreatDoorDrawSe
import Derived.Test.YtgpledgjpjifcaaGreatDoorAccT
import Derived.Test.YtgpledgjpjifcaaGreatDoorLedgerF
import Derived.Test.YtgpledgjpjifcaaGreatDoorLine
import Derived.Laws.StructEq
import Derived.RegionTactic
import Derived.ProofKit
import Derived.LaidMore
import Derived.OpenShut
import Derived.Lay
import Derived.Handed
import Derived.Stop.Joined
import Derived.Stop.LaidErr
import Derived.Lib.LaidTab
import Derived.Shelf.Vars
import Derived.ChangeMaps5
import Derived.Test.YtgpledgjpjifcaaGreatDoorCards
import Derived.Test.YtgpledgjpjifcaaGreatDoorTie
import Derived.SevenTiedAt
namespace Go.Proofs.YtgpledgjpjifcaaGreatDoor
open Go.RowKit Go.Deep

theorem info_ints : (Tryz.prog.info? 3).map (fun i => (i.zero, i.size, i.bytes)) = some (some (.int .i64 0), 1, 8) := by kernel_rfl
theorem str_cut (s : ByteArray) (a b : Nat) : (s.extract a b).data.toList = (s.data.toList.drop a).take (b - a) := by
  rw [ByteArray.data_extract, Array.toList_extract]
/-- where the pieces stand while a text is cut from the left -/
theorem parts_step {b : UInt8} {l : List UInt8} {f k : Nat} {D : List (List UInt8)} (hD : parts b l = D ++ parts b (l.drop f)) (hfk : f ≤ k) (hno : b ∉ (l.drop f).take (k - f)) (hk : l[k]? = some b) :
    parts b l = (D ++ [(l.drop f).take (k - f)]) ++ parts b (l.drop (k + 1)) := by
  have hlt : k < l.length := (List.getElem?_eq_some_iff.1 hk).1
  have e : l.drop f = (l.drop f).take (k - f) ++ b :: l.drop (k + 1) := by
    conv => lhs; rw [← List.take_append_drop (k - f) (l.drop f)]
    rw [List.drop_drop, show f + (k - f) = k by omega, List.drop_eq_getElem_cons hlt]
    congr 2
    rw [List.getElem?_eq_getElem hlt] at hk
    exact Option.some.inj hk
  have e2 : parts b (l.drop f) = (l.drop f).take (k - f) :: parts b (l.drop (k + 1)) := by
    conv => lhs; rw [e]
    exact parts_mid _ hno
  rw [hD, e2]
  simp
theorem parts_end {b : UInt8} {l : List UInt8} {f : Nat} {D : List (List UInt8)} (hD : parts b l = D ++ parts b (l.drop f)) (hno : b ∉ (l.drop f).take (l.length - f)) : parts b l = D ++ [l.drop f] := by
  rw [List.take_of_length_le (by simp)] at hno
  rw [hD, parts_none hno]
theorem no_next {b c : UInt8} {l : List UInt8} {f k : Nat} (hfk : f ≤ k) (hno : b ∉ (l.drop f).take (k - f)) (hk : l[k]? = some c) (hc : c ≠ b) : b ∉ (l.drop f).take (k + 1 - f) := by
  have hlt : k < l.length := (List.getElem?_eq_some_iff.1 hk).1
  rw [show k + 1 - f = (k - f) + 1 by omega, List.take_add_one, List.mem_append, not_or]
  refine ⟨hno, ?_⟩
  rw [List.getElem?_drop, show f + (k - f) = k by omega, hk]
  simpa using Ne.symm hc
/-- numbers that are read one after the other: the slice of them, or nothing -/
def NumsP (ls : List (List UInt8)) (w : World) (e : Ending) (w' : World) : Prop :=
  ((ls.all numOk = true ∧ ∃ A cap, e = .returned (.tuple #[.slice A ls.length cap, .bool true]) ∧ Ow w' w.heap.size 3 1 (.slice A ls.length cap) ((ls.map numOf).map intCells)) ∨
    (ls.all numOk = false ∧ e = .returned (.tuple #[.slice none 0 0, .bool false]))) ∧ Below w.heap.size w w'
set_option maxRecDepth 100000 in
set_option maxHeartbeats 1000000 in
theorem i_numbersOf (ls : List (List UInt8)) (A : Option Addr) (cap : Nat) (w : World) (hld : Le w) (hl : ls.length ≤ 1048577) (hs : ∀ x ∈ ls, x.length ≤ 1048576) (hr : Rd w w.heap.size 1 A (ls.map strC)) :
    Calls Tryz.prog 55 #[.slice A ls.length cap] w (NumsP ls w) := by
  have HLD := Lib.hid hld
  have HR := Lib.hid hr
  have HSZ := Lib.hid hs
  clear hld hr hs
  obtain ⟨i0, hi, hz0, hz1, hz2⟩ := info_parts info_ints
  have HI := Lib.hid hi
  have HZ0 := Lib.hid hz0
  have HZ1 := Lib.hid hz1
  have HZ2 := Lib.hid hz2
  clear hi hz0 hz1 hz2
  go_enter Tryz.func55, Tryz.ntmps55
  go_wp2_with fail
  go_loopw [4, 11] (fun v i wr => ∃ (k : Nat) (B : Option Addr) (cp : Nat), k ≤ ls.length ∧ i = .int .i64 k ∧ v = .slice B ((ls.take k).map numOf).length cp ∧ Ow wr w.heap.size 3 1 (.slice B ((ls.take k).map numOf).length cp) (((ls.take k).map numOf).map intCells) ∧ Hid ((ls.take k).all numOk = true) ∧ Below w.heap.size w wr) (fun _ i _ => ls.length - (intOf i).toNat)
  case atStart => exact ⟨0, none, 0, Nat.zero_le _, rfl, rfl, Ow.nil_, Lib.hid rfl, Below.refl _ _⟩
  case round =>
    obtain ⟨k, B, cp, hk, rfl, rfl, how, HA, hbw⟩ := hrel
    have hbz := hbw.size
    have hrl : ((ls.take k).map numOf).length ≤ 1048577 := by simp; omega
    have OB := Lib.hid how.block
    have HW := Lib.hid how
    clear how
    by_cases hlt : k < ls.length
    · obtain ⟨b, off, rfl, hbB, c0⟩ := strs_rd (HR.out.below hbw) hlt
      have HK := Lib.hid (show (ls.take (k + 1)).map numOf = (ls.take k).map numOf ++ [numOf ls[k]] by
        rw [List.take_succ_eq_append_getElem hlt, List.map_append]
        rfl)
      have hsz := HSZ.out ls[k] (List.getElem_mem hlt)
      obtain ⟨x, hx⟩ : ∃ x : ByteArray, (⟨(ls[k]).toArray⟩ : ByteArray) = x := ⟨_, rfl⟩
      have hxl : x.data.toList = ls[k] := by rw [← hx]
      have hxs : x.size ≤ 281474976710656 := by
        have : x.data.toList.length = x.size := Array.length_toList
        rw [hxl] at this
        omega
      have HXL := Lib.hid hxl
      rw [hx] at c0
      clear hx hxl hsz
      obtain ⟨RS, hRS⟩ : ∃ R, (ls.take k).map numOf = R := ⟨_, rfl⟩
      rw [hRS] at hrl OB HW HK ⊢
      clear hRS
      cases hok : numOk ls[k]
      · have HN := Lib.hid (show ls.all numOk = false by
          rw [List.all_eq_false]
          exact ⟨ls[k], List.getElem_mem hlt, by rw [hok]; simp⟩)
        have HOK := Lib.hid hok
        clear hok
        go_wp2_with fail
        refine (i_TextNum x _ (HLD.out.below (by (first | ((repeat' first | (with_reducible (first | exact Below.refl _ _ | assumption | refine Below.setCell ?_ ?_ _ | refine Below.alloc ?_ ?_ _ | refine Below.drew ?_ | refine below_drewN ?_ _ | refine Below.trans ?_ (Below.mono (by assumption) ?_))) | omega | (simp; omega) | (simp; done)); done) | (repeat' first | exact Below.refl _ _ | assumption | refine Below.setCell ?_ (by first | omega | (simp; omega) | (simp; done)) _ | refine Below.alloc ?_ (by first | omega | (simp; omega) | (simp; done)) _ | refine Below.drew ?_ | refine below_drewN ?_ _ | refine Below.trans ?_ (Below.mono (by assumption) (by first | omega | (simp; omega) | (simp; done))))))) hxs).mono ?_
        rintro e w1 ⟨rfl, hb1⟩
        have z1 := hb1.size
        rw [HXL.out, HOK.out]
        go_wp2_with fail
        go_ret2
        exact ⟨Or.inr ⟨HN.out, rfl⟩, by (first | ((repeat' first | (with_reducible (first | exact Below.refl _ _ | assumption | refine Below.setCell ?_ ?_ _ | refine Below.alloc ?_ ?_ _ | refine Below.drew ?_ | refine below_drewN ?_ _ | refine Below.trans ?_ (Below.mono (by assumption) ?_))) | omega | (simp; omega) | (simp; done)); done) | (repeat' first | exact Below.refl _ _ | assumption | refine Below.setCell ?_ (by first | omega | (simp; omega) | (simp; done)) _ | refine Below.alloc ?_ (by first | omega | (simp; omega) | (simp; done)) _ | refine Below.drew ?_ | refine below_drewN ?_ _ | refine Below.trans ?_ (Below.mono (by assumption) (by first | omega | (simp; omega) | (simp; done)))))⟩
      · have HOK := Lib.hid hok
        clear hok
        go_wp2_with fail
        refine (i_TextNum x _ (HLD.out.below (by (first | ((repeat' first | (with_reducible (first | exact Below.refl _ _ | assumption | refine Below.setCell ?_ ?_ _ | refine Below.alloc ?_ ?_ _ | refine Below.drew ?_ | refine below_drewN ?_ _ | refine Below.trans ?_ (Below.mono (by assumption) ?_))) | omega | (simp; omega) | (simp; done)); done) | (repeat' first | exact Below.refl _ _ | assumption | refine Below.setCell ?_ (by first | omega | (simp; omega) | (simp; done)) _ | refine Below.alloc ?_ (by first | omega | (simp; omega) | (simp; done)) _ | refine Below.drew ?_ | refine below_drewN ?_ _ | refine Below.trans ?_ (Below.mono (by assumption) (by first | omega | (simp; omega) | (simp; done))))))) hxs).mono ?_
        rintro e w1 ⟨rfl, hb1⟩
        have z1 := hb1.size
        rw [HXL.out, HOK.out]
        have hb2 : Below w.heap.size w w1 := by (first | ((repeat' first | (with_reducible (first | exact Below.refl _ _ | assumption | refine Below.setCell ?_ ?_ _ | refine Below.alloc ?_ ?_ _ | refine Below.drew ?_ | refine below_drewN ?_ _ | refine Below.trans ?_ (Below.mono (by assumption) ?_))) | omega | (simp; omega) | (simp; done)); done) | (repeat' first | exact Below.refl _ _ | assumption | refine Below.setCell ?_ (by first | omega | (simp; omega) | (simp; done)) _ | refine Below.alloc ?_ (by first | omega | (simp; omega) | (simp; done)) _ | refine Below.drew ?_ | refine below_drewN ?_ _ | refine Below.trans ?_ (Below.mono (by assumption) (by first | omega | (simp; omega) | (simp; done)))))
        have HW1 := Lib.hid (HW.out.below hb1)
        have KB := Lib.hid (fun o1 (w6 : World) (hgr : (w1.alloc o1).grownBy w6 (Value.slice B RS.length cp).ownBlock) => (hb2.alloc (by omega) o1).grown hgr (by simp; omega) (fun k e => (OB.out k e).1))
        have HA1 := Lib.hid (show (ls.take (k + 1)).all numOk = true by
          rw [List.take_succ_eq_append_getElem hlt, List.all_append, HA.out]
          simp [HOK.out])
        obtain ⟨v, hv⟩ : ∃ v, numOf ls[k] = v := ⟨_, rfl⟩
        rw [hv] at HK ⊢
        clear hb1 HW HA hv
        go_wp2_with (at_builtin; refine wpList_app1 rfl _ _ _ rfl w.heap.size 3 i0 _ 1 8 Tryz.underlying87 HI.out HZ0.out HZ1.out HZ2.out rfl (by decide) (.slice B RS.length cp) (RS.map intCells) rfl (HW1.out.alloc _) w1.heap.size 1 [.int .i64 v] 3 rfl (heap_at (by first | rfl | (simp; done))) rfl (by simp [Value.oneCell']) (by rw [List.length_map]; omega) (by decide) (by first | omega | (simp; omega) | (simp; done)) ?_; intro g cap' w6 how6 hgr6 hat6 hlt6; rw [List.length_map] at how6; rw [List.length_map]; have hb6 := KB.out _ _ hgr6; have O6 := Lib.hid how6; clear how6 hgr6 hat6)
        go_roundw
        case rel =>
          refine ⟨k + 1, some ⟨g, 0, none⟩, cap', by omega, by go_num, by rw [HK.out, List.length_append]; rfl, ?_, HA1, hb6⟩
          rw [HK.out, List.map_append, List.length_append]
          exact O6.out
        case measure => simp [intOf]; omega
    · obtain rfl : k = ls.length := by omega
      rw [List.take_length] at HW HA ⊢
      have HW2 : Hid (Ow wr w.heap.size 3 1 (.slice B ls.length cp) ((ls.map numOf).map intCells)) := Lib.hid (by
        have := HW.out
        rw [List.length_map] at this
        exact this)
      rw [List.length_map]
      clear HW OB
      go_wp2_with fail
      go_ret2
      exact ⟨Or.inl ⟨HA.out, B, cp, rfl, HW2.out⟩, hbw⟩
/-- the pieces of a text, in a slice of its own -/
def PartsP (b : UInt8) (l : List UInt8) (w : World) (e : Ending) (w' : World) : Prop :=
  ∃ A cap, e = .returned (.slice A (parts b l).length cap) ∧ Ow w' w.heap.size 9 1 (.slice A (parts b l).length cap) ((parts b l).map strC) ∧ Below w.heap.size w w'
set_option maxRecDepth 100000 in
set_option maxHeartbeats 1000000 in
theorem s_l04Parts (s : ByteArray) (b : UInt8) (x : Int) (w : World) (hx : x = (b.toNat : Int)) (hs : s.size ≤ 1048576) : Calls Tryz.prog 61 #[.string s, .int .u8 x] w (PartsP b s.data.toList w) := by
  have hz := Lib.hid (show s.data.toList.length = s.size from Array.length_toList)
  have HX := Lib.hid hx
  have HE0 := Lib.hid (Ow.empty_ (w := w) (g := w.heap.size) (e := 9) (size := 1) (B := w.heap.size) rfl (Nat.le_refl _))
  clear hx
  obtain ⟨i0, hi, hz0, hz1, hz2⟩ := info_parts info_str
  have HI := Lib.hid hi
  have HZ0 := Lib.hid hz0
  have HZ1 := Lib.hid hz1
  have HZ2 := Lib.hid hz2
  clear hi hz0 hz1 hz2
  go_enter Tryz.func61, Tryz.ntmps61
  go_wp2_with fail
  go_loopw [5, 6, 7] (fun v fr i wr => ∃ (k f : Nat) (D : List (List UInt8)) (B : Option Addr) (cp : Nat), k ≤ s.size ∧ f ≤ k ∧ i = .int .i64 k ∧ fr = .int .i64 f ∧ v = .slice B D.length cp ∧ D.length ≤ f ∧ Ow wr w.heap.size 9 1 (.slice B D.length cp) (D.map strC) ∧ Hid (parts b s.data.toList = D ++ parts b (s.data.toList.drop f)) ∧ Hid (b ∉ (s.data.toList.drop f).take (k - f)) ∧ Below w.heap.size w wr) (fun _ _ i _ => s.size - (intOf i).toNat)
  case atStart => exact ⟨0, 0, [], _, _, Nat.zero_le _, Nat.le_refl _, rfl, rfl, rfl, Nat.le_refl _, HE0.out, Lib.hid rfl, Lib.hid (by simp), by (first | ((repeat' first | (with_reducible (first | exact Below.refl _ _ | assumption | refine Below.setCell ?_ ?_ _ | refine Below.alloc ?_ ?_ _ | refine Below.drew ?_ | refine below_drewN ?_ _ | refine Below.trans ?_ (Below.mono (by assumption) ?_))) | omega | (simp; omega) | (simp; done)); done) | (repeat' first | exact Below.refl _ _ | assumption | refine Below.setCell ?_ (by first | omega | (simp; omega) | (simp; done)) _ | refine Below.alloc ?_ (by first | omega | (simp; omega) | (simp; done)) _ | refine Below.drew ?_ | refine below_drewN ?_ _ | refine Below.trans ?_ (Below.mono (by assumption) (by first | omega | (simp; omega) | (simp; done)))))⟩
  case round =>
    obtain ⟨k, f, D, B, cp, hk, hfk, rfl, rfl, rfl, hDf, how, HD, HN, hbw⟩ := hrel
    have hbz := hbw.size
    have OB := Lib.hid how.block
    have HW := Lib.hid how
    clear how HE0
    have KB := Lib.hid (fun o1 (w6 : World) (hgr : (wr.alloc o1).grownBy w6 (Value.slice B D.length cp).ownBlock) => (hbw.alloc (by omega) o1).grown hgr (by simp; omega) (fun k e => (OB.out k e).1))
    have f0 : (0 : Int) ≤ (f : Int) := by omega
    have f1 : (f : Int) ≤ (k : Int) := by omega
    have f2 : (k : Int) ≤ (s.size : Int) := by omega
    by_cases hlt : k < s.size
    · have HB := Lib.hid (byte_at hlt)
      by_cases hc : s[k] = b
      · have HS := Lib.hid (parts_step HD.out hfk HN.out (by rw [HB.out, hc]))
        have hcx : ((s[k].toNat : Int) == x) = true := by rw [beq_iff_eq, hc, HX.out]
        have HC := Lib.hid (str_cut s f k)
        clear hc HB
        go_wp2_with (at_builtin; refine wpList_app1 rfl _ _ _ rfl w.heap.size 9 i0 _ 1 16 Tryz.underlying71 HI.out HZ0.out HZ1.out HZ2.out rfl (by decide) (.slice B D.length cp) (D.map strC) rfl (HW.out.alloc _) wr.heap.size 1 [.string (s.extract f k)] 9 rfl (heap_at (by first | rfl | (simp; done))) rfl (by simp [Value.oneCell']) (by rw [List.length_map]; omega) (by decide) (by first | omega | (simp; omega) | (simp; done)) ?_; intro g cap' w6 how6 hgr6 hat6 hlt6; rw [List.length_map] at how6; rw [List.length_map]; have hb6 := KB.out _ _ hgr6; have O6 := Lib.hid how6; clear how6 hgr6 hat6)
        go_roundw
        case rel =>
          refine ⟨k + 1, k + 1, D ++ [(s.data.toList.drop f).take (k - f)], some ⟨g, 0, none⟩, cap', by omega, by omega, by go_num, by go_num, by rw [List.length_append]; rfl, by simp; omega, ?_, Lib.hid HS.out, Lib.hid (by simp), hb6⟩
          rw [List.map_append, List.length_append, ← HC.out]
          exact O6.out
        case measure => simp [intOf]; omega
      · have HS := Lib.hid (no_next hfk HN.out HB.out hc)
        have hcx : ((s[k].toNat : Int) == x) = false := by
          rw [beq_eq_false_iff_ne, HX.out]
          intro h
          exact hc (UInt8.toNat_inj.1 (by omega))
        clear hc HB
        go_wp2_with fail
        go_roundw
        case rel => exact ⟨k + 1, f, D, B, cp, by omega, by omega, by go_num, rfl, rfl, hDf, HW.out, HD, Lib.hid HS.out, hbw⟩
        case measure => simp [intOf]; omega
    · obtain rfl : k = s.size := by omega
      have HS := Lib.hid (parts_end HD.out (by rw [hz.out]; exact HN.out))
      have HC := Lib.hid (show (s.extract f s.size).data.toList = s.data.toList.drop f by
        rw [str_cut, List.take_of_length_le]
        rw [List.length_drop, hz.out]
        exact Nat.le_refl _)
      have HL := Lib.hid (show (parts b s.data.toList).length = D.length + 1 by rw [HS.out]; simp)
      go_wp2_with (at_builtin; refine wpList_app1 rfl _ _ _ rfl w.heap.size 9 i0 _ 1 16 Tryz.underlying71 HI.out HZ0.out HZ1.out HZ2.out rfl (by decide) (.slice B D.length cp) (D.map strC) rfl (HW.out.alloc _) wr.heap.size 1 [.string (s.extract f s.size)] 9 rfl (heap_at (by first | rfl | (simp; done))) rfl (by simp [Value.oneCell']) (by rw [List.length_map]; omega) (by decide) (by first | omega | (simp; omega) | (simp; done)) ?_; intro g cap' w6 how6 hgr6 hat6 hlt6; rw [List.length_map] at how6; rw [List.length_map]; have hb6 := KB.out _ _ hgr6; have O6 := Lib.hid how6; clear how6 hgr6 hat6)
      go_ret
      refine ⟨some ⟨g, 0, none⟩, cap', ?_, ?_, hb6⟩
      · show Ending.returned (.slice (some ⟨g, 0, none⟩) (D.length + 1) cap') = _
        rw [HL.out]
      rw [HL.out, HS.out, List.map_append, ← HC.out]
      exact O6.out
/-- the lines of a text -/
def linesL (l : List UInt8) : List (List UInt8) := if (parts 10 l).getLast? = some [] then (parts 10 l).dropLast else parts 10 l
theorem linesL_len (l : List UInt8) : (linesL l).length ≤ l.length + 1 := by
  have := parts_len 10 l
  unfold linesL
  split
  · rw [List.length_dropLast]; omega
  · exact this
theorem linesL_sub (l : List UInt8) : ∀ p ∈ linesL l, p.length ≤ l.length := by
  intro p hp
  unfold linesL at hp
  split at hp
  · exact parts_sub 10 l p (List.dropLast_subset _ hp)
  · exact parts_sub 10 l p hp
/-- the block of a slice of strings, and what its cells hold -/
theorem Ow.strs {w : World} {B g n cap : Nat} {e : TypeId} {l : List (List UInt8)} (h : Ow w B e 1 (.slice (some ⟨g, 0, none⟩) n cap) (l.map strC)) :
    ∃ cs, w.heap[g]? = some (.cells cs e (0, 0)) ∧ ∀ (j : Nat) x, l[j]? = some x → cs[j]? = some (.string ⟨x.toArray⟩) := by
  obtain ⟨cs, hh, _, _⟩ := Fill.of_ow (xs := []) h
  refine ⟨cs, hh, fun j x hx => ?_⟩
  have hj : j < l.length := (List.getElem?_eq_some_iff.1 hx).1
  obtain ⟨b, off, e1, _, hc⟩ := strs_rd h.rd hj
  simp only [Option.some.injEq, Addr.mk.injEq, and_true] at e1
  obtain ⟨rfl, rfl⟩ := e1
  rw [blk_cell hh, Nat.zero_add] at hc
  rw [List.getElem?_eq_getElem hj] at hx
  rw [hc, Option.some.inj hx]
def LinesP (l : List UInt8) (w : World) (e : Ending) (w' : World) : Prop :=
  ∃ (cap : Nat) (cs : Array Value), e = .returned (.slice (some ⟨w.heap.size, 0, none⟩) (linesL l).length cap) ∧ w'.heap[w.heap.size]? = some (.cells cs 9 (0, 0)) ∧ (∀ (j : Nat) x, (linesL l)[j]? = some x → cs[j]? = some (.string ⟨x.toArray⟩)) ∧ (linesL l).length ≤ cap ∧ Below w.heap.size w w'
set_option maxHeartbeats 1000000 in
theorem i_linesOf (s : ByteArray) (w : World) (hld : Ld w) (hs : s.size ≤ 1048576) : Calls Tryz.prog 40 #[.string s] w (LinesP s.data.toList w) := by
  have HC := Lib.hid (i_Split s 10 w hld (by omega))
  have hpl := parts_len 10 s.data.toList
  have hz : s.data.toList.length = s.size := Array.length_toList
  have hp0 : 0 < (parts 10 s.data.toList).length := by
    have := parts_ne 10 s.data.toList
    exact List.length_pos_iff.2 this
  rw [hz] at hpl
  have HD := Lib.hid (show linesL s.data.toList = if (parts 10 s.data.toList).getLast? = some [] then (parts 10 s.data.toList).dropLast else parts 10 s.data.toList from rfl)
  obtain ⟨P, hP⟩ : ∃ P, parts 10 s.data.toList = P := ⟨_, rfl⟩
  obtain ⟨LL, hLL⟩ : ∃ LL, linesL s.data.toList = LL := ⟨_, rfl⟩
  have HPost := Lib.hid (show ∀ cap cs w', w'.heap[w.heap.size]? = some (.cells cs 9 (0, 0)) → (∀ (j : Nat) x, LL[j]? = some x → cs[j]? = some (.string ⟨x.toArray⟩)) → LL.length ≤ cap → Below w.heap.size w w' → LinesP s.data.toList w (.returned (.slice (some ⟨w.heap.size, 0, none⟩) LL.length cap)) w' from fun cap cs w' h1 h2 h3 h4 => ⟨cap, cs, by rw [hLL], h1, by rw [hLL]; exact h2, by rw [hLL]; exact h3, h4⟩)
  rw [hLL, hP] at HD
  rw [hP] at HC hpl hp0
  clear hP hLL hz hld
  obtain ⟨j, hj⟩ : ∃ j, P.length = j + 1 := ⟨P.length - 1, by omega⟩
  have hjP : j < P.length := by omega
  have HG := Lib.hid (show P.getLast? = some P[j] by
    rw [List.getLast?_eq_getElem?, hj, Nat.add_sub_cancel, List.getElem?_eq_getElem hjP])
  have HJ := Lib.hid hj
  rw [hj] at HC hpl
  clear hp0 hj
  have i1 : (0 : Int) ≤ (j : Int) := by omega
  go_enter Tryz.func40, Tryz.ntmps40
  go_wp2_with fail
  refine HC.out.mono ?_
  rintro e w1 ⟨rfl, how, hb1⟩
  have z1 := hb1.size
  have HW := Lib.hid how
  obtain ⟨b, off, e1, hbB, c0⟩ := strs_rd how.rd hjP
  simp only [Option.some.injEq, Addr.mk.injEq, and_true] at e1
  obtain ⟨rfl, rfl⟩ := e1
  rw [Nat.zero_add] at c0
  clear how
  obtain ⟨x, hx⟩ : ∃ x : ByteArray, (⟨(P[j]).toArray⟩ : ByteArray) = x := ⟨_, rfl⟩
  have HXL := Lib.hid (show Str P[j] x from hx.symm)
  rw [hx] at c0
  clear hx
  by_cases hxe : x = ⟨#[]⟩
  · have HT := Lib.hid (show LL = P.dropLast by
      rw [HD.out, HG.out, if_pos]
      have := HXL.out.data
      rw [hxe] at this
      rw [← this])
    have HL := Lib.hid (show LL.length = j by rw [HT.out, List.length_dropLast, HJ.out, Nat.add_sub_cancel])
    subst hxe
    go_wp2_with fail
    go_ret
    obtain ⟨cs, h1, h2⟩ := HW.out.strs
    have := HPost.out (j + 1) cs _ h1 (fun i y hy => h2 i y (by
      rw [HT.out, List.dropLast_eq_take, List.getElem?_take] at hy
      split at hy
      · exact hy
      · cases hy)) (by rw [HL.out]; omega) hb1
    rw [HL.out] at this
    exact this
  · have HT := Lib.hid (show LL = P by
      rw [HD.out, HG.out, if_neg]
      intro h
      refine hxe ?_
      have h2 : P[j] = [] := Option.some.inj h
      have := HXL.out
      unfold Str at this
      rw [this, h2])
    have hne := neq_str hxe
    have hne1 : x.toList.isEmpty = false := by
      have h := neq_str hxe
      cases hx : x.toList with
      | nil => rw [hx] at h; simp at h
      | cons a r => rfl
    clear hne
    have HL := Lib.hid (show LL.length = j + 1 by rw [HT.out, HJ.out])
    clear hxe
    go_wp2_with fail
    go_ret
    obtain ⟨cs, h1, h2⟩ := HW.out.strs
    have := HPost.out (j + 1) cs _ h1 (fun i y hy => h2 i y (by rw [HT.out] at hy; exact hy)) (by rw [HL.out]; exact Nat.le_refl _) hb1
    rw [HL.out] at this
    exact this
end Go.Proofs.YtgpledgjpjifcaaGreatDoor

namespace Go.Proofs.YtgpledgjpjifcaaGreatDoor
open Go

theorem debtL_inj {d d' : Debt} (h : debtOk d = true) (h' : debtOk d' = true) (e : debtL d = debtL d') : d = d' := by
  obtain ⟨a1, a2, a3⟩ := debt_nums h
  obtain ⟨b1, b2, b3⟩ := debt_nums h'
  have hp := debt_parts h
  rw [e, debt_parts h'] at hp
  simp only [List.cons.injEq, and_true] at hp
  have hq := debt_peers d'
  rw [hp.1, debt_peers d] at hq
  simp only [List.cons.injEq, and_true] at hq
  have c1 := numL_inj a1 b1 hq.1
  have c2 := numL_inj a2 b2 hq.2
  have c3 := numL_inj b3 a3 hp.2
  cases d
  cases d'
  simp_all
/-- what a text says of a debt -/
def DebtIs (s : List UInt8) (d : Debt) (ok : Bool) : Prop :=
  (ok = true ∧ debtOk d = true ∧ debtL d = s) ∨ (ok = false ∧ d = ⟨0, 0, 0⟩ ∧ ∀ d', debtOk d' = true → debtL d' ≠ s)
theorem DebtIs.one {s : List UInt8} {d d' : Debt} {ok ok' : Bool} (h : DebtIs s d ok) (h' : DebtIs s d' ok') : d = d' ∧ ok = ok' := by
  rcases h with ⟨rfl, h1, h2⟩ | ⟨rfl, rfl, h1⟩ <;> rcases h' with ⟨rfl, h3, h4⟩ | ⟨rfl, rfl, h3⟩
  · exact ⟨debtL_inj h1 h3 (h2.trans h4.symm), rfl⟩
  · exact absurd h2 (h3 _ h1)
  · exact absurd h4 (h1 _ h3)
  · exact ⟨rfl, rfl⟩
theorem Line.ext' {x y : Line} (h1 : x.Kind = y.Kind) (h2 : x.Ch = y.Ch) (h3 : x.Amt = y.Amt) : x = y := by
  cases x
  cases y
  simp_all
theorem rowC_inj {x y : Line} (hx : accB x.Kind x.Ch = true ∧ numB x.Amt = true) (hy : accB y.Kind y.Ch = true ∧ numB y.Amt = true) (e : rowC x = rowC y) : x = y := by
  have h := rowC_parts x
  rw [e, rowC_parts y] at h
  simp only [List.cons.injEq, and_true] at h
  have h1 := accL_inj hy.1 hx.1 h.1
  exact Line.ext' h1.1.symm h1.2.symm (numL_inj hy.2 hx.2 h.2).symm
theorem itemC_inj {x y : Line} (hx : accB x.Kind x.Ch = true ∧ numB x.Amt = true) (hy : accB y.Kind y.Ch = true ∧ numB y.Amt = true) (e : itemC x = itemC y) : x = y := by
  have h := itemC_parts x
  rw [e, itemC_parts y] at h
  simp only [List.cons.injEq, and_true] at h
  have h1 := accL_inj hy.1 hx.1 h.1
  exact Line.ext' h1.1.symm h1.2.symm (numL_inj hy.2 hx.2 h.2).symm
theorem map_inj_on {α β : Type} {f : α → β} {P : α → Prop} (hf : ∀ x y, P x → P y → f x = f y → x = y) : ∀ {l l' : List α}, (∀ x ∈ l, P x) → (∀ x ∈ l', P x) → l.map f = l'.map f → l = l'
  | [], [], _, _, _ => rfl
  | [], _ :: _, _, _, e => by simp at e
  | _ :: _, [], _, _, e => by simp at e
  | x :: l, y :: l', h, h', e => by
    simp only [List.map_cons, List.cons.injEq] at e
    rw [hf x y (h x (by simp)) (h' y (by simp)) e.1, map_inj_on hf (fun z hz => h z (by simp [hz])) (fun z hz => h' z (by simp [hz])) e.2]
theorem ledgerL_inj {z z' : Int} {l l' : List Line} (h : ledgerB z l = true) (h' : ledgerB z' l' = true) (e : ledgerL z l = ledgerL z' l') : z = z' ∧ l = l' := by
  unfold ledgerL at e
  rw [if_pos h, if_pos h'] at e
  have hp := led_parts z l
  rw [e, led_parts z' l'] at hp
  simp only [List.cons.injEq] at hp
  have h1 := ledC_parts z'
  rw [hp.1, ledC_parts z] at h1
  simp only [List.cons.injEq, and_true, true_and] at h1
  obtain ⟨n1, n2⟩ := ledger_nums h
  obtain ⟨m1, m2⟩ := ledger_nums h'
  refine ⟨numL_inj n1 m1 h1, ?_⟩
  exact (map_inj_on (P := fun x : Line => accB x.Kind x.Ch = true ∧ numB x.Amt = true) (fun x y => rowC_inj) m2 n2 (List.append_cancel_right hp.2)).symm
theorem postingL_inj {z z' : Int} {l l' : List Line} (h : postingB z l = true) (h' : postingB z' l' = true) (e : postingL z l = postingL z' l') : z = z' ∧ l = l' := by
  unfold postingL at e
  rw [if_pos h, if_pos h'] at e
  have hp := post_parts z l
  rw [e, post_parts z' l'] at hp
  simp only [List.cons.injEq, true_and] at hp
  obtain ⟨n1, n2⟩ := posting_nums h
  obtain ⟨m1, m2⟩ := posting_nums h'
  exact ⟨(numL_inj m1 n1 hp.1).symm, (map_inj_on (P := fun x : Line => accB x.Kind x.Ch = true ∧ numB x.Amt = true) (fun x y => itemC_inj) m2 n2 hp.2).symm⟩
/-- what a text says of a ledger (a posting): F is the text -/
def LedIs (B : Int → List Line → Bool) (F : Int → List Line → List UInt8) (s : List UInt8) (z : Int) (l : List Line) (ok : Bool) : Prop :=
  (ok = true ∧ B z l = true ∧ F z l = s) ∨ (ok = false ∧ z = 0 ∧ l = [] ∧ ∀ z' l', B z' l' = true → F z' l' ≠ s)
theorem LedIs.one {B : Int → List Line → Bool} {F : Int → List Line → List UInt8} (inj : ∀ {z z' l l'}, B z l = true → B z' l' = true → F z l = F z' l' → z = z' ∧ l = l') {s : List UInt8} {z z' : Int} {l l' : List Line} {ok ok' : Bool}
    (h : LedIs B F s z l ok) (h' : LedIs B F s z' l' ok') : z = z' ∧ l = l' ∧ ok = ok' := by
  rcases h with ⟨rfl, h1, h2⟩ | ⟨rfl, rfl, rfl, h1⟩ <;> rcases h' with ⟨rfl, h3, h4⟩ | ⟨rfl, rfl, rfl, h3⟩
  · obtain ⟨a, b⟩ := inj h1 h3 (h2.trans h4.symm)
    exact ⟨a, b, rfl⟩
  · exact absurd h2 (h3 _ _ h1)
  · exact absurd h4 (h1 _ _ h3)
  · exact ⟨rfl, rfl, rfl⟩
end Go.Proofs.YtgpledgjpjifcaaGreatDoor

namespace Go.Proofs.YtgpledgjpjifcaaGreatDoor
open Go.RowKit

theorem debt_rd {x0 x1 x2 : Int} {W : World} {b : Nat} {e : TypeId} (h : W.heap[b]? = some (.cells #[.int .i64 x0, .int .i64 x1, .int .i64 x2] e (0, 0))) : Rd W W.heap.size 3 (some ⟨b, 0, none⟩) ([(⟨x0, x1, x2⟩ : Debt)].map Debt.cells) := rd_one (cs := [.int .i64 x0, .int .i64 x1, .int .i64 x2]) h rfl
set_option maxRecDepth 100000 in
set_option maxHeartbeats 2000000 in
theorem s_DebtText (x0 x1 x2 : Int) (w : World) : Calls Tryz.prog 19 #[.agg #[.int .i64 x0, .int .i64 x1, .int .i64 x2]] w fun e w' => e = .returned (.string ⟨(debtL ⟨x0, x1, x2⟩).toArray⟩) ∧ Below w.heap.size w w' := by
  cases hd : debtOk ⟨x0, x1, x2⟩
  · have HE := Lib.hid (show debtL ⟨x0, x1, x2⟩ = [] by unfold debtL; rw [hd]; rfl)
    have HD := Lib.hid (show debtsOk [(⟨x0, x1, x2⟩ : Debt)] = false by simp [debtsOk, hd])
    clear hd
    go_enter Tryz.func19, Tryz.ntmps19
    go_wp2_with fail
    refine (s_DebtsOk [(⟨x0, x1, x2⟩ : Debt)] _ _ _ (by simp) (debt_rd (by (first | ((repeat' first | (with_reducible (first | assumption | (refine heap_at ?_; (first | rfl | (simp; done))) | refine heap_drew ?_ | refine heap_drewN ?_ | refine heap_past ?_ ?_ | refine heap_far ?_ ?_)) | (simp; done) | (simp; omega)); done) | (repeat' first | assumption | (refine heap_at ?_; (simp; done)) | refine heap_drew ?_ | refine heap_drewN ?_ | (refine heap_past ?_ ?_ <;> try (simp; done)) | (refine heap_far ?_ ?_ <;> try (simp; done))))))).mono ?_
    rintro e w1 ⟨rfl, hb1⟩
    have z1 := hb1.size
    (try simp at z1)
    rw [HD.out]
    go_wp2_with fail
    go_ret
    exact ⟨by rw [HE.out]; rfl, by (first | ((repeat' first | (with_reducible (first | exact Below.refl _ _ | assumption | refine Below.setCell ?_ ?_ _ | refine Below.alloc ?_ ?_ _ | refine Below.drew ?_ | refine below_drewN ?_ _ | refine Below.trans ?_ (Below.mono (by assumption) ?_))) | omega | (simp; omega) | (simp; done)); done) | (repeat' first | exact Below.refl _ _ | assumption | refine Below.setCell ?_ (by first | omega | (simp; omega) | (simp; done)) _ | refine Below.alloc ?_ (by first | omega | (simp; omega) | (simp; done)) _ | refine Below.drew ?_ | refine below_drewN ?_ _ | refine Below.trans ?_ (Below.mono (by assumption) (by first | omega | (simp; omega) | (simp; done)))))⟩
  · have HE := Lib.hid (show numL x0 ++ [62] ++ numL x1 ++ [32] ++ numL x2 = debtL ⟨x0, x1, x2⟩ by unfold debtL; rw [hd]; rfl)
    have HD := Lib.hid (show debtsOk [(⟨x0, x1, x2⟩ : Debt)] = true by simp [debtsOk, hd])
    clear hd
    go_enter Tryz.func19, Tryz.ntmps19
    go_wp2_with fail
    refine (s_DebtsOk [(⟨x0, x1, x2⟩ : Debt)] _ _ _ (by simp) (debt_rd (by (first | ((repeat' first | (with_reducible (first | assumption | (refine heap_at ?_; (first | rfl | (simp; done))) | refine heap_drew ?_ | refine heap_drewN ?_ | refine heap_past ?_ ?_ | refine heap_far ?_ ?_)) | (simp; done) | (simp; omega)); done) | (repeat' first | assumption | (refine heap_at ?_; (simp; done)) | refine heap_drew ?_ | refine heap_drewN ?_ | (refine heap_past ?_ ?_ <;> try (simp; done)) | (refine heap_far ?_ ?_ <;> try (simp; done))))))).mono ?_
    rintro e w1 ⟨rfl, hb1⟩
    have z1 := hb1.size
    (try simp at z1)
    obtain ⟨jh, j0, j1, j2, jf, jz⟩ := own3 (g := w.heap.size) hb1 (by first | omega | (simp; omega) | (simp; done)) (by (first | ((repeat' first | (with_reducible (first | assumption | (refine heap_at ?_; (first | rfl | (simp; done))) | refine heap_drew ?_ | refine heap_drewN ?_ | refine heap_past ?_ ?_ | refine heap_far ?_ ?_)) | (simp; done) | (simp; omega)); done) | (repeat' first | assumption | (refine heap_at ?_; (simp; done)) | refine heap_drew ?_ | refine heap_drewN ?_ | (refine heap_past ?_ ?_ <;> try (simp; done)) | (refine heap_far ?_ ?_ <;> try (simp; done)))))
    rw [HD.out]
    go_wp2_with fail
    go_region_held3 (fun w' => w'.cell? ⟨w.heap.size, 0, none⟩ = some (.int .i64 x0) ∧ w'.cell? ⟨w.heap.size, 1, none⟩ = some (.int .i64 x1) ∧ w'.cell? ⟨w.heap.size, 2, none⟩ = some (.int .i64 x2))
      (first | exact ⟨j0, j1, j2⟩ | exact ⟨k00, k01, k02⟩ | exact ⟨k10, k11, k12⟩ | exact ⟨k20, k21, k22⟩)
      (first
        | (go_at_call 51; refine (s_NumText _ _).mono ?_; rintro e w3 ⟨rfl, hb3⟩; have z3 := hb3.size; (try simp at z3); obtain ⟨s0, hs0', hs0⟩ := str_of (numL x0); rw [hs0']; clear hs0'; obtain ⟨kh0, k00, k01, k02, kf0, kz0⟩ := own3 (g := w.heap.size) hb3 (by first | omega | (simp; omega) | (simp; done)) (by (first | ((repeat' first | (with_reducible (first | assumption | (refine heap_at ?_; (first | rfl | (simp; done))) | refine heap_drew ?_ | refine heap_drewN ?_ | refine heap_past ?_ ?_ | refine heap_far ?_ ?_)) | (simp; done) | (simp; omega)); done) | (repeat' first | assumption | (refine heap_at ?_; (simp; done)) | refine heap_drew ?_ | refine heap_drewN ?_ | (refine heap_past ?_ ?_ <;> try (simp; done)) | (refine heap_far ?_ ?_ <;> try (simp; done))))); obtain ⟨t0, ht0, hadd0⟩ := str_add hs0.out (str_lit (l := [62]) rfl) (by have := numL_len x0; simp; omega))
        | (go_at_call 51; refine (s_NumText _ _).mono ?_; rintro e w4 ⟨rfl, hb4⟩; have z4 := hb4.size; (try simp at z4); obtain ⟨s1, hs1', hs1⟩ := str_of (numL x1); rw [hs1']; clear hs1'; obtain ⟨kh1, k10, k11, k12, kf1, kz1⟩ := own3 (g := w.heap.size) hb4 (by first | omega | (simp; omega) | (simp; done)) (by (first | ((repeat' first | (with_reducible (first | assumption | (refine heap_at ?_; (first | rfl | (simp; done))) | refine heap_drew ?_ | refine heap_drewN ?_ | refine heap_past ?_ ?_ | refine heap_far ?_ ?_)) | (simp; done) | (simp; omega)); done) | (repeat' first | assumption | (refine heap_at ?_; (simp; done)) | refine heap_drew ?_ | refine heap_drewN ?_ | (refine heap_past ?_ ?_ <;> try (simp; done)) | (refine heap_far ?_ ?_ <;> try (simp; done))))); obtain ⟨t1, ht1, hadd1⟩ := str_add ht0.out hs1.out (by have := numL_len x0; have := numL_len x1; simp; omega); obtain ⟨t2, ht2, hadd2⟩ := str_add ht1.out (str_lit (l := [32]) rfl) (by have := numL_len x0; have := numL_len x1; simp; omega))
        | (go_at_call 51; refine (s_NumText _ _).mono ?_; rintro e w5 ⟨rfl, hb5⟩; have z5 := hb5.size; (try simp at z5); obtain ⟨s2, hs2', hs2⟩ := str_of (numL x2); rw [hs2']; clear hs2'; obtain ⟨kh2, k20, k21, k22, kf2, kz2⟩ := own3 (g := w.heap.size) hb5 (by first | omega | (simp; omega) | (simp; done)) (by (first | ((repeat' first | (with_reducible (first | assumption | (refine heap_at ?_; (first | rfl | (simp; done))) | refine heap_drew ?_ | refine heap_drewN ?_ | refine heap_past ?_ ?_ | refine heap_far ?_ ?_)) | (simp; done) | (simp; omega)); done) | (repeat' first | assumption | (refine heap_at ?_; (simp; done)) | refine heap_drew ?_ | refine heap_drewN ?_ | (refine heap_past ?_ ?_ <;> try (simp; done)) | (refine heap_far ?_ ?_ <;> try (simp; done))))); obtain ⟨t3, ht3, hadd3⟩ := str_add ht2.out hs2.out (by have := numL_len x0; have := numL_len x1; have := numL_len x2; simp; omega)))
    go_wp2_with fail
    go_ret
    refine ⟨?_, by (first | ((repeat' first | (with_reducible (first | exact Below.refl _ _ | assumption | refine Below.setCell ?_ ?_ _ | refine Below.alloc ?_ ?_ _ | refine Below.drew ?_ | refine below_drewN ?_ _ | refine Below.trans ?_ (Below.mono (by assumption) ?_))) | omega | (simp; omega) | (simp; done)); done) | (repeat' first | exact Below.refl _ _ | assumption | refine Below.setCell ?_ (by first | omega | (simp; omega) | (simp; done)) _ | refine Below.alloc ?_ (by first | omega | (simp; omega) | (simp; done)) _ | refine Below.drew ?_ | refine below_drewN ?_ _ | refine Below.trans ?_ (Below.mono (by assumption) (by first | omega | (simp; omega) | (simp; done)))))⟩
    show Ending.returned (.string t3) = _
    rw [ht3.out, HE.out]
set_option maxRecDepth 100000 in
set_option maxHeartbeats 2000000 in
theorem i_DebtText (x0 x1 x2 : Int) (w : World) (hld : Ld w) : Calls Tryz.prog 16 #[.agg #[.int .i64 x0, .int .i64 x1, .int .i64 x2]] w fun e w' => e = .returned (.string ⟨(debtL ⟨x0, x1, x2⟩).toArray⟩) ∧ Below w.heap.size w w' := by
  have HLD := Lib.hid hld
  clear hld
  cases hd : debtOk ⟨x0, x1, x2⟩
  · have HE := Lib.hid (show debtL ⟨x0, x1, x2⟩ = [] by unfold debtL; rw [hd]; rfl)
    have HD := Lib.hid (show debtsOk [(⟨x0, x1, x2⟩ : Debt)] = false by simp [debtsOk, hd])
    clear hd
    go_enter Tryz.func16, Tryz.ntmps16
    go_wp2_with fail
    refine (i_DebtsOk [(⟨x0, x1, x2⟩ : Debt)] _ _ _ (by simp) (debt_rd (by (first | ((repeat' first | (with_reducible (first | assumption | (refine heap_at ?_; (first | rfl | (simp; done))) | refine heap_drew ?_ | refine heap_drewN ?_ | refine heap_past ?_ ?_ | refine heap_far ?_ ?_)) | (simp; done) | (simp; omega)); done) | (repeat' first | assumption | (refine heap_at ?_; (simp; done)) | refine heap_drew ?_ | refine heap_drewN ?_ | (refine heap_past ?_ ?_ <;> try (simp; done)) | (refine heap_far ?_ ?_ <;> try (simp; done))))))).mono ?_
    rintro e w1 ⟨rfl, hb1⟩
    have z1 := hb1.size
    (try simp at z1)
    rw [HD.out]
    go_wp2_with fail
    go_ret
    exact ⟨by rw [HE.out]; rfl, by (first | ((repeat' first | (with_reducible (first | exact Below.refl _ _ | assumption | refine Below.setCell ?_ ?_ _ | refine Below.alloc ?_ ?_ _ | refine Below.drew ?_ | refine below_drewN ?_ _ | refine Below.trans ?_ (Below.mono (by assumption) ?_))) | omega | (simp; omega) | (simp; done)); done) | (repeat' first | exact Below.refl _ _ | assumption | refine Below.setCell ?_ (by first | omega | (simp; omega) | (simp; done)) _ | refine Below.alloc ?_ (by first | omega | (simp; omega) | (simp; done)) _ | refine Below.drew ?_ | refine below_drewN ?_ _ | refine Below.trans ?_ (Below.mono (by assumption) (by first | omega | (simp; omega) | (simp; done)))))⟩
  · have HE := Lib.hid (show numL x0 ++ [62] ++ numL x1 ++ [32] ++ numL x2 = debtL ⟨x0, x1, x2⟩ by unfold debtL; rw [hd]; rfl)
    have HD := Lib.hid (show debtsOk [(⟨x0, x1, x2⟩ : Debt)] = true by simp [debtsOk, hd])
    clear hd
    go_enter Tryz.func16, Tryz.ntmps16
    go_wp2_with fail
    refine (i_DebtsOk [(⟨x0, x1, x2⟩ : Debt)] _ _ _ (by simp) (debt_rd (by (first | ((repeat' first | (with_reducible (first | assumption | (refine heap_at ?_; (first | rfl | (simp; done))) | refine heap_drew ?_ | refine heap_drewN ?_ | refine heap_past ?_ ?_ | refine heap_far ?_ ?_)) | (simp; done) | (simp; omega)); done) | (repeat' first | assumption | (refine heap_at ?_; (simp; done)) | refine heap_drew ?_ | refine heap_drewN ?_ | (refine heap_past ?_ ?_ <;> try (simp; done)) | (refine heap_far ?_ ?_ <;> try (simp; done))))))).mono ?_
    rintro e w1 ⟨rfl, hb1⟩
    have z1 := hb1.size
    (try simp at z1)
    obtain ⟨jh, j0, j1, j2, jf, jz⟩ := own3 (g := w.heap.size) hb1 (by first | omega | (simp; omega) | (simp; done)) (by (first | ((repeat' first | (with_reducible (first | assumption | (refine heap_at ?_; (first | rfl | (simp; done))) | refine heap_drew ?_ | refine heap_drewN ?_ | refine heap_past ?_ ?_ | refine heap_far ?_ ?_)) | (simp; done) | (simp; omega)); done) | (repeat' first | assumption | (refine heap_at ?_; (simp; done)) | refine heap_drew ?_ | refine heap_drewN ?_ | (refine heap_past ?_ ?_ <;> try (simp; done)) | (refine heap_far ?_ ?_ <;> try (simp; done)))))
    rw [HD.out]
    go_wp2_with fail
    go_region_held3 (fun w' => w'.cell? ⟨w.heap.size, 0, none⟩ = some (.int .i64 x0) ∧ w'.cell? ⟨w.heap.size, 1, none⟩ = some (.int .i64 x1) ∧ w'.cell? ⟨w.heap.size, 2, none⟩ = some (.int .i64 x2))
      (first | exact ⟨j0, j1, j2⟩ | exact ⟨k00, k01, k02⟩ | exact ⟨k10, k11, k12⟩ | exact ⟨k20, k21, k22⟩)
      (first
        | (go_at_call 34; refine (i_NumText _ _ (HLD.out.below (by (first | ((repeat' first | (with_reducible (first | exact Below.refl _ _ | assumption | refine Below.setCell ?_ ?_ _ | refine Below.alloc ?_ ?_ _ | refine Below.drew ?_ | refine below_drewN ?_ _ | refine Below.trans ?_ (Below.mono (by assumption) ?_))) | omega | (simp; omega) | (simp; done)); done) | (repeat' first | exact Below.refl _ _ | assumption | refine Below.setCell ?_ (by first | omega | (simp; omega) | (simp; done)) _ | refine Below.alloc ?_ (by first | omega | (simp; omega) | (simp; done)) _ | refine Below.drew ?_ | refine below_drewN ?_ _ | refine Below.trans ?_ (Below.mono (by assumption) (by first | omega | (simp; omega) | (simp; done)))))))).mono ?_; rintro e w3 ⟨rfl, hb3⟩; have z3 := hb3.size; (try simp at z3); obtain ⟨s0, hs0', hs0⟩ := str_of (numL x0); rw [hs0']; clear hs0'; obtain ⟨kh0, k00, k01, k02, kf0, kz0⟩ := own3 (g := w.heap.size) hb3 (by first | omega | (simp; omega) | (simp; done)) (by (first | ((repeat' first | (with_reducible (first | assumption | (refine heap_at ?_; (first | rfl | (simp; done))) | refine heap_drew ?_ | refine heap_drewN ?_ | refine heap_past ?_ ?_ | refine heap_far ?_ ?_)) | (simp; done) | (simp; omega)); done) | (repeat' first | assumption | (refine heap_at ?_; (simp; done)) | refine heap_drew ?_ | refine heap_drewN ?_ | (refine heap_past ?_ ?_ <;> try (simp; done)) | (refine heap_far ?_ ?_ <;> try (simp; done))))); obtain ⟨t0, ht0, hadd0⟩ := str_add hs0.out (str_lit (l := [62]) rfl) (by have := numL_len x0; simp; omega))
        | (go_at_call 34; refine (i_NumText _ _ (HLD.out.below (by (first | ((repeat' first | (with_reducible (first | exact Below.refl _ _ | assumption | refine Below.setCell ?_ ?_ _ | refine Below.alloc ?_ ?_ _ | refine Below.drew ?_ | refine below_drewN ?_ _ | refine Below.trans ?_ (Below.mono (by assumption) ?_))) | omega | (simp; omega) | (simp; done)); done) | (repeat' first | exact Below.refl _ _ | assumption | refine Below.setCell ?_ (by first | omega | (simp; omega) | (simp; done)) _ | refine Below.alloc ?_ (by first | omega | (simp; omega) | (simp; done)) _ | refine Below.drew ?_ | refine below_drewN ?_ _ | refine Below.trans ?_ (Below.mono (by assumption) (by first | omega | (simp; omega) | (simp; done)))))))).mono ?_; rintro e w4 ⟨rfl, hb4⟩; have z4 := hb4.size; (try simp at z4); obtain ⟨s1, hs1', hs1⟩ := str_of (numL x1); rw [hs1']; clear hs1'; obtain ⟨kh1, k10, k11, k12, kf1, kz1⟩ := own3 (g := w.heap.size) hb4 (by first | omega | (simp; omega) | (simp; done)) (by (first | ((repeat' first | (with_reducible (first | assumption | (refine heap_at ?_; (first | rfl | (simp; done))) | refine heap_drew ?_ | refine heap_drewN ?_ | refine heap_past ?_ ?_ | refine heap_far ?_ ?_)) | (simp; done) | (simp; omega)); done) | (repeat' first | assumption | (refine heap_at ?_; (simp; done)) | refine heap_drew ?_ | refine heap_drewN ?_ | (refine heap_past ?_ ?_ <;> try (simp; done)) | (refine heap_far ?_ ?_ <;> try (simp; done))))); obtain ⟨t1, ht1, hadd1⟩ := str_add ht0.out hs1.out (by have := numL_len x0; have := numL_len x1; simp; omega); obtain ⟨t2, ht2, hadd2⟩ := str_add ht1.out (str_lit (l := [32]) rfl) (by have := numL_len x0; have := numL_len x1; simp; omega))
        | (go_at_call 34; refine (i_NumText _ _ (HLD.out.below (by (first | ((repeat' first | (with_reducible (first | exact Below.refl _ _ | assumption | refine Below.setCell ?_ ?_ _ | refine Below.alloc ?_ ?_ _ | refine Below.drew ?_ | refine below_drewN ?_ _ | refine Below.trans ?_ (Below.mono (by assumption) ?_))) | omega | (simp; omega) | (simp; done)); done) | (repeat' first | exact Below.refl _ _ | assumption | refine Below.setCell ?_ (by first | omega | (simp; omega) | (simp; done)) _ | refine Below.alloc ?_ (by first | omega | (simp; omega) | (simp; done)) _ | refine Below.drew ?_ | refine below_drewN ?_ _ | refine Below.trans ?_ (Below.mono (by assumption) (by first | omega | (simp; omega) | (simp; done)))))))).mono ?_; rintro e w5 ⟨rfl, hb5⟩; have z5 := hb5.size; (try simp at z5); obtain ⟨s2, hs2', hs2⟩ := str_of (numL x2); rw [hs2']; clear hs2'; obtain ⟨kh2, k20, k21, k22, kf2, kz2⟩ := own3 (g := w.heap.size) hb5 (by first | omega | (simp; omega) | (simp; done)) (by (first | ((repeat' first | (with_reducible (first | assumption | (refine heap_at ?_; (first | rfl | (simp; done))) | refine heap_drew ?_ | refine heap_drewN ?_ | refine heap_past ?_ ?_ | refine heap_far ?_ ?_)) | (simp; done) | (simp; omega)); done) | (repeat' first | assumption | (refine heap_at ?_; (simp; done)) | refine heap_drew ?_ | refine heap_drewN ?_ | (refine heap_past ?_ ?_ <;> try (simp; done)) | (refine heap_far ?_ ?_ <;> try (simp; done))))); obtain ⟨t3, ht3, hadd3⟩ := str_add ht2.out hs2.out (by have := numL_len x0; have := numL_len x1; have := numL_len x2; simp; omega)))
    go_wp2_with fail
    go_ret
    refine ⟨?_, by (first | ((repeat' first | (with_reducible (first | exact Below.refl _ _ | assumption | refine Below.setCell ?_ ?_ _ | refine Below.alloc ?_ ?_ _ | refine Below.drew ?_ | refine below_drewN ?_ _ | refine Below.trans ?_ (Below.mono (by assumption) ?_))) | omega | (simp; omega) | (simp; done)); done) | (repeat' first | exact Below.refl _ _ | assumption | refine Below.setCell ?_ (by first | omega | (simp; omega) | (simp; done)) _ | refine Below.alloc ?_ (by first | omega | (simp; omega) | (simp; done)) _ | refine Below.drew ?_ | refine below_drewN ?_ _ | refine Below.trans ?_ (Below.mono (by assumption) (by first | omega | (simp; omega) | (simp; done)))))⟩
    show Ending.returned (.string t3) = _
    rw [ht3.out, HE.out]
end Go.Proofs.YtgpledgjpjifcaaGreatDoor

namespace Go.Proofs.YtgpledgjpjifcaaGreatDoor
open Go.RowKit

theorem replace_len (l : List UInt8) : (Lib.replace l [62] [32] 1).length = l.length := by
  by_cases h : (62 : UInt8) ∈ l
  · obtain ⟨x, y, rfl, hx⟩ := List.eq_append_cons_of_mem h
    rw [replace_mid hx (by decide)]
    simp
  · have h0 : Lib.count l [62] = 0 := Lib.count_miss (index_not h)
    have h1 : Lib.replaceNum l [62] 1 = 0 := by
      unfold Lib.replaceNum
      rw [h0, if_pos (Or.inr (by decide))]
    unfold Lib.replace
    rw [if_neg (by decide), h1]
    rfl
theorem debt_hit {d : Debt} {s : List UInt8} (hs : s ≠ []) (h : debtL d = s) : DebtIs s d true := by
  refine Or.inl ⟨rfl, ?_, h⟩
  cases hd : debtOk d with
  | true => rfl
  | false =>
    exfalso
    refine hs ?_
    rw [← h]
    unfold debtL
    rw [hd]
    rfl
theorem debt_miss_i {s : List UInt8} (h : ∀ a b c, parts 32 (Lib.replace s [62] [32] 1) = [a, b, c] → [a, b, c].all numOk = true → debtL ⟨numOf a, numOf b, numOf c⟩ ≠ s) : DebtIs s ⟨0, 0, 0⟩ false := by
  refine Or.inr ⟨rfl, rfl, fun d hd e => ?_⟩
  subst e
  obtain ⟨h1, h2, h3⟩ := debt_nums hd
  have k := h _ _ _ (debt_words hd) (by simp [num_at h1, num_at h2, num_at h3])
  rw [(num_at h1).1, (num_at h2).1, (num_at h3).1] at k
  exact k rfl
theorem debt_miss_s {s : List UInt8} (h : ∀ x y a b, parts 32 s = [x, y] → parts 62 x = [a, b] → debtL ⟨numOf a, numOf b, numOf y⟩ ≠ s) : DebtIs s ⟨0, 0, 0⟩ false := by
  refine Or.inr ⟨rfl, rfl, fun d hd e => ?_⟩
  subst e
  obtain ⟨h1, h2, h3⟩ := debt_nums hd
  have k := h _ _ _ _ (debt_parts hd) (debt_peers d)
  rw [(num_at h1).1, (num_at h2).1, (num_at h3).1] at k
  exact k rfl
theorem parts_many {b : UInt8} {s : List UInt8} (h : (parts b s).length ≠ 1) : s ≠ [] := by
  rintro rfl
  exact h rfl
theorem list3 {α : Type} {l : List α} (h : l.length = 3) : ∃ a b c, l = [a, b, c] := by
  match l, h with
  | [a, b, c], _ => exact ⟨a, b, c, rfl⟩
theorem list2 {α : Type} {l : List α} (h : l.length = 2) : ∃ a b, l = [a, b] := by
  match l, h with
  | [a, b], _ => exact ⟨a, b, rfl⟩
/-- a debt that is read -/
def TdP (s : ByteArray) (w : World) (e : Ending) (w' : World) : Prop :=
  ∃ (d : Debt) (ok : Bool), e = .returned (.tuple #[.agg #[.int .i64 d.From, .int .i64 d.To, .int .i64 d.Amt], .bool ok]) ∧ DebtIs s.data.toList d ok ∧ Below w.heap.size w w'
theorem heap_set3 {w : World} {g : Nat} {t : TypeId} {a b c : Value} (h : w.heap[g]? = some (.cells #[a, b, c] t (0, 0))) (u : Value) :
    (w.setCell ⟨g, 0, none⟩ u).heap[g]? = some (.cells #[u, b, c] t (0, 0)) ∧ (w.setCell ⟨g, 1, none⟩ u).heap[g]? = some (.cells #[a, u, c] t (0, 0)) ∧ (w.setCell ⟨g, 2, none⟩ u).heap[g]? = some (.cells #[a, b, u] t (0, 0)) :=
  ⟨heap_set h, heap_set h, heap_set h⟩
theorem i_Replace1 (s : ByteArray) (w : World) (h : Ld w) (hs : s.size ≤ 1048576) : Calls Tryz.prog 57 #[.string s, .string ⟨#[62]⟩, .string ⟨#[32]⟩, .int .i64 1] w fun e w' =>
    e = .returned (.string ⟨(Lib.replace s.data.toList [62] [32] 1).toArray⟩) ∧ Below w.heap.size w w' := by
  obtain ⟨m, hm⟩ := h.ml
  have hc := Lib.countB_le ⟨#[62]⟩ (Nat.le_refl 1) s.size s (Nat.le_refl _)
  refine Tryz.strings_Replace s ⟨#[62]⟩ ⟨#[32]⟩ 1 m w (by omega) hm (Nat.le_refl 1) ?_
  show s.size + Lib.countB s ⟨#[62]⟩ * 1 ≤ _
  omega
set_option maxRecDepth 100000 in
set_option maxHeartbeats 2000000 in
theorem i_TextDebt (s : ByteArray) (w : World) (hld : Le w) (hs : s.size ≤ 1048576) : Calls Tryz.prog 22 #[.string s] w (TdP s w) := by
  have HLD := Lib.hid hld
  have hz : s.data.toList.length = s.size := Array.length_toList
  obtain ⟨R, hR', hR⟩ := str_of (Lib.replace s.data.toList [62] [32] 1)
  have hRs : R.size ≤ 1048576 := by
    rw [hR.out.size, replace_len, hz]
    exact hs
  have hpl := parts_len 32 R.data.toList
  have hps := parts_sub 32 R.data.toList
  have hrz : R.data.toList.length = R.size := Array.length_toList
  have HRD := Lib.hid hR.out.data
  have HRe := Lib.hid (show ∀ W : World, Ld W → Calls Tryz.prog 57 #[.string s, .string ⟨#[62]⟩, .string ⟨#[32]⟩, .int .i64 1] W fun e w' => e = .returned (.string R) ∧ Below W.heap.size W w' from fun W h => by
    have := i_Replace1 s W h hs
    rw [hR'] at this
    exact this)
  have HSp := Lib.hid (fun W (h : Ld W) => i_Split R 32 W h (by omega))
  have HMiss := Lib.hid (debt_miss_i (s := s.data.toList))
  rw [← HRD.out] at HMiss
  have HNe := Lib.hid (show (parts 32 R.data.toList).length = 3 → s.data.toList ≠ [] from fun h e => by
    rw [HRD.out, e] at h
    exact absurd h (by decide))
  obtain ⟨P, hP⟩ : ∃ P, parts 32 R.data.toList = P := ⟨_, rfl⟩
  rw [hP] at hpl hps HSp HMiss HNe
  have hPl : P.length ≤ 1048577 := by omega
  have HPs := Lib.hid (show ∀ x ∈ P, x.length ≤ 1048576 from fun x hx => by have := hps x hx; omega)
  clear hld hR' hP hpl hps hrz hz
  go_enter Tryz.func22, Tryz.ntmps22
  go_wp2_with fail
  refine (HRe.out _ ((HLD.out.below (by (first | ((repeat' first | (with_reducible (first | exact Below.refl _ _ | assumption | refine Below.setCell ?_ ?_ _ | refine Below.alloc ?_ ?_ _ | refine Below.drew ?_ | refine below_drewN ?_ _ | refine Below.trans ?_ (Below.mono (by assumption) ?_))) | omega | (simp; omega) | (simp; done)); done) | (repeat' first | exact Below.refl _ _ | assumption | refine Below.setCell ?_ (by first | omega | (simp; omega) | (simp; done)) _ | refine Below.alloc ?_ (by first | omega | (simp; omega) | (simp; done)) _ | refine Below.drew ?_ | refine below_drewN ?_ _ | refine Below.trans ?_ (Below.mono (by assumption) (by first | omega | (simp; omega) | (simp; done))))))).toLd)).mono ?_
  rintro e w1 ⟨rfl, hb1⟩
  have z1 := hb1.size
  try simp at z1
  have hbA : Below w.heap.size w w1 := by (first | ((repeat' first | (with_reducible (first | exact Below.refl _ _ | assumption | refine Below.setCell ?_ ?_ _ | refine Below.alloc ?_ ?_ _ | refine Below.drew ?_ | refine below_drewN ?_ _ | refine Below.trans ?_ (Below.mono (by assumption) ?_))) | omega | (simp; omega) | (simp; done)); done) | (repeat' first | exact Below.refl _ _ | assumption | refine Below.setCell ?_ (by first | omega | (simp; omega) | (simp; done)) _ | refine Below.alloc ?_ (by first | omega | (simp; omega) | (simp; done)) _ | refine Below.drew ?_ | refine below_drewN ?_ _ | refine Below.trans ?_ (Below.mono (by assumption) (by first | omega | (simp; omega) | (simp; done)))))
  obtain ⟨ah, a0, a1, a2, af, az⟩ := own3 (g := w.heap.size) hb1 (by first | omega | (simp; omega) | (simp; done)) (by (first | ((repeat' first | (with_reducible (first | assumption | (refine heap_at ?_; (first | rfl | (simp; done))) | refine heap_drew ?_ | refine heap_drewN ?_ | refine heap_past ?_ ?_ | refine heap_far ?_ ?_)) | (simp; done) | (simp; omega)); done) | (repeat' first | assumption | (refine heap_at ?_; (simp; done)) | refine heap_drew ?_ | refine heap_drewN ?_ | (refine heap_past ?_ ?_ <;> try (simp; done)) | (refine heap_far ?_ ?_ <;> try (simp; done)))))
  clear hb1 a0 a1 a2 af
  go_wp2_with fail
  refine (HSp.out _ ((HLD.out.below hbA).toLd)).mono ?_
  rintro e w2 ⟨rfl, how2, hb2⟩
  have z2 := hb2.size
  have HR2 := Lib.hid how2.rd
  have hbB : Below w.heap.size w w2 := by (first | ((repeat' first | (with_reducible (first | exact Below.refl _ _ | assumption | refine Below.setCell ?_ ?_ _ | refine Below.alloc ?_ ?_ _ | refine Below.drew ?_ | refine below_drewN ?_ _ | refine Below.trans ?_ (Below.mono (by assumption) ?_))) | omega | (simp; omega) | (simp; done)); done) | (repeat' first | exact Below.refl _ _ | assumption | refine Below.setCell ?_ (by first | omega | (simp; omega) | (simp; done)) _ | refine Below.alloc ?_ (by first | omega | (simp; omega) | (simp; done)) _ | refine Below.drew ?_ | refine below_drewN ?_ _ | refine Below.trans ?_ (Below.mono (by assumption) (by first | omega | (simp; omega) | (simp; done)))))
  have bh := heap_below hb2 az ah
  clear how2 hb2 ah az hbA
  go_wp2_with fail
  refine (i_numbersOf P _ _ _ (HLD.out.below hbB) hPl HPs.out HR2.out).mono ?_
  rintro e w3 ⟨hcase, hb3⟩
  have z3 := hb3.size
  have hbC : Below w.heap.size w w3 := by (first | ((repeat' first | (with_reducible (first | exact Below.refl _ _ | assumption | refine Below.setCell ?_ ?_ _ | refine Below.alloc ?_ ?_ _ | refine Below.drew ?_ | refine below_drewN ?_ _ | refine Below.trans ?_ (Below.mono (by assumption) ?_))) | omega | (simp; omega) | (simp; done)); done) | (repeat' first | exact Below.refl _ _ | assumption | refine Below.setCell ?_ (by first | omega | (simp; omega) | (simp; done)) _ | refine Below.alloc ?_ (by first | omega | (simp; omega) | (simp; done)) _ | refine Below.drew ?_ | refine below_drewN ?_ _ | refine Below.trans ?_ (Below.mono (by assumption) (by first | omega | (simp; omega) | (simp; done)))))
  have ch := heap_below hb3 (by omega) bh
  obtain ⟨_, c0, c1, c2, cf, cz⟩ := own3 (g := w.heap.size) (Below.refl _ w3) (by omega) ch
  have CH := Lib.hid ch
  clear bh hb3 hbB ch
  rcases hcase with ⟨hall, B, cp, rfl, how⟩ | ⟨hall, rfl⟩
  · have HALL := Lib.hid hall
    clear hall
    by_cases h3 : P.length = 3
    · obtain ⟨a, b, c, rfl⟩ := list3 h3
      have HN2 := Lib.hid (HNe.out rfl)
      obtain ⟨g, off, e1, hgB, d0⟩ := ints_rd (k := 0) how.rd (by simp)
      obtain ⟨g', off', e2, _, d1⟩ := ints_rd (k := 1) how.rd (by simp)
      obtain ⟨g'', off'', e3, _, d2⟩ := ints_rd (k := 2) how.rd (by simp)
      have hcp : 3 ≤ cp := by
        obtain ⟨A', cap'', e1, _, h2, _⟩ := how.form
        simp at h2
        injection e1 with _ _ e3
        omega
      subst e1
      simp only [Option.some.injEq, Addr.mk.injEq, and_true] at e2 e3
      obtain ⟨rfl, rfl⟩ := e2
      obtain ⟨rfl, rfl⟩ := e3
      simp only [List.map_cons, List.map_nil, List.getElem_cons_zero, List.getElem_cons_succ, Nat.add_zero] at d0 d1 d2
      obtain ⟨x, hx⟩ : ∃ x, numOf a = x := ⟨_, rfl⟩
      obtain ⟨y, hy⟩ : ∃ y, numOf b = y := ⟨_, rfl⟩
      obtain ⟨z, hzz⟩ : ∃ z, numOf c = z := ⟨_, rfl⟩
      rw [hx] at d0
      rw [hy] at d1
      rw [hzz] at d2
      have HX := Lib.hid (show debtL ⟨numOf a, numOf b, numOf c⟩ = debtL ⟨x, y, z⟩ by rw [hx, hy, hzz])
      clear hx hy hzz how h3 hPl
      have i3 : ([a, b, c] : List (List UInt8)).length = 3 := rfl
      rw [i3]
      clear i3
      go_wp2_with fail
      go_region_held3 (fun w' => w'.cell? ⟨g, off, none⟩ = some (.int .i64 x) ∧ w'.cell? ⟨g, off + 1, none⟩ = some (.int .i64 y) ∧ w'.cell? ⟨g, off + 2, none⟩ = some (.int .i64 z))
        (first | exact ⟨d0, d1, d2⟩ | exact ⟨cell_past hgB d0, cell_past hgB d1, cell_past hgB d2⟩)
        (fail)
      all_goals
        go_wp2_with fail
        refine (i_DebtText x y z _ (HLD.out.below (by (first | ((repeat' first | (with_reducible (first | exact Below.refl _ _ | assumption | refine Below.setCell ?_ ?_ _ | refine Below.alloc ?_ ?_ _ | refine Below.drew ?_ | refine below_drewN ?_ _ | refine Below.trans ?_ (Below.mono (by assumption) ?_))) | omega | (simp; omega) | (simp; done)); done) | (repeat' first | exact Below.refl _ _ | assumption | refine Below.setCell ?_ (by first | omega | (simp; omega) | (simp; done)) _ | refine Below.alloc ?_ (by first | omega | (simp; omega) | (simp; done)) _ | refine Below.drew ?_ | refine below_drewN ?_ _ | refine Below.trans ?_ (Below.mono (by assumption) (by first | omega | (simp; omega) | (simp; done))))))).toLd).mono ?_
        rintro e w4 ⟨rfl, hb4⟩
        have z4 := hb4.size
        (try simp at z4)
        obtain ⟨t, ht', ht⟩ := str_of (debtL ⟨x, y, z⟩)
        rw [ht']
        clear ht'
        obtain ⟨eh, e0, e1, e2, ef, ez⟩ := own3 (g := w3.heap.size) hb4 (by first | omega | (simp; omega) | (simp; done)) (by (first | ((repeat' first | (with_reducible (first | assumption | (refine heap_at ?_; (first | rfl | (simp; done))) | refine heap_drew ?_ | refine heap_drewN ?_ | refine heap_past ?_ ?_ | refine heap_far ?_ ?_)) | (simp; done) | (simp; omega)); done) | (repeat' first | assumption | (refine heap_at ?_; (simp; done)) | refine heap_drew ?_ | refine heap_drewN ?_ | (refine heap_past ?_ ?_ <;> try (simp; done)) | (refine heap_far ?_ ?_ <;> try (simp; done)))))
        have gh : w4.heap[w.heap.size]? = _ := heap_below hb4 (by simp; omega) (heap_drew (heap_past (by omega) CH.out))
        obtain ⟨_, g0, g1, g2, gf, gz⟩ := own3 (g := w.heap.size) (Below.refl _ w4) (by omega) gh
        have GH := Lib.hid gh
        have hbD : Below w.heap.size w w4 := by (first | ((repeat' first | (with_reducible (first | exact Below.refl _ _ | assumption | refine Below.setCell ?_ ?_ _ | refine Below.alloc ?_ ?_ _ | refine Below.drew ?_ | refine below_drewN ?_ _ | refine Below.trans ?_ (Below.mono (by assumption) ?_))) | omega | (simp; omega) | (simp; done)); done) | (repeat' first | exact Below.refl _ _ | assumption | refine Below.setCell ?_ (by first | omega | (simp; omega) | (simp; done)) _ | refine Below.alloc ?_ (by first | omega | (simp; omega) | (simp; done)) _ | refine Below.drew ?_ | refine below_drewN ?_ _ | refine Below.trans ?_ (Below.mono (by assumption) (by first | omega | (simp; omega) | (simp; done)))))
        clear hb4 gh eh
        by_cases et : t = s
        · have HN := Lib.hid (debt_hit HN2.out (eq_str ht.out et))
          have q := heap_set3 GH.out
          subst et
          go_wp2_with fail
          refine bodyPost_ret (v := .tuple #[.agg #[.int .i64 x, .int .i64 y, .int .i64 z], .bool true]) (by simp [results, Tryz.results22, go_sem, *]) rfl ⟨⟨x, y, z⟩, true, rfl, HN.out, ?_⟩
          (first | ((repeat' first | (with_reducible (first | exact Below.refl _ _ | assumption | refine Below.setCell ?_ ?_ _ | refine Below.alloc ?_ ?_ _ | refine Below.drew ?_ | refine below_drewN ?_ _ | refine Below.trans ?_ (Below.mono (by assumption) ?_))) | omega | (simp; omega) | (simp; done)); done) | (repeat' first | exact Below.refl _ _ | assumption | refine Below.setCell ?_ (by first | omega | (simp; omega) | (simp; done)) _ | refine Below.alloc ?_ (by first | omega | (simp; omega) | (simp; done)) _ | refine Below.drew ?_ | refine below_drewN ?_ _ | refine Below.trans ?_ (Below.mono (by assumption) (by first | omega | (simp; omega) | (simp; done)))))
        · have HN := Lib.hid (HMiss.out (fun a' b' c' h _ => by
            simp only [List.cons.injEq, and_true] at h
            obtain ⟨rfl, rfl, rfl⟩ := h
            rw [HX.out]
            exact ne_str ht.out et))
          have hne := neq_str et
          clear et
          go_wp2_with fail
          refine bodyPost_ret (v := .tuple #[.agg #[.int .i64 0, .int .i64 0, .int .i64 0], .bool false]) (by simp [results, Tryz.results22, go_sem, *]) rfl ⟨⟨0, 0, 0⟩, false, rfl, HN.out, ?_⟩
          (first | ((repeat' first | (with_reducible (first | exact Below.refl _ _ | assumption | refine Below.setCell ?_ ?_ _ | refine Below.alloc ?_ ?_ _ | refine Below.drew ?_ | refine below_drewN ?_ _ | refine Below.trans ?_ (Below.mono (by assumption) ?_))) | omega | (simp; omega) | (simp; done)); done) | (repeat' first | exact Below.refl _ _ | assumption | refine Below.setCell ?_ (by first | omega | (simp; omega) | (simp; done)) _ | refine Below.alloc ?_ (by first | omega | (simp; omega) | (simp; done)) _ | refine Below.drew ?_ | refine below_drewN ?_ _ | refine Below.trans ?_ (Below.mono (by assumption) (by first | omega | (simp; omega) | (simp; done)))))
    · have HN := Lib.hid (HMiss.out (fun a b c h _ => by rw [h] at h3; exact absurd rfl h3))
      have h3' : ((P.length : Int) == 3) = false := by rw [beq_eq_false_iff_ne]; omega
      clear how h3
      go_wp2_with fail
      refine bodyPost_ret (v := .tuple #[.agg #[.int .i64 0, .int .i64 0, .int .i64 0], .bool false]) (by simp [results, Tryz.results22, go_sem, *]) rfl ⟨⟨0, 0, 0⟩, false, rfl, HN.out, ?_⟩
      (first | ((repeat' first | (with_reducible (first | exact Below.refl _ _ | assumption | refine Below.setCell ?_ ?_ _ | refine Below.alloc ?_ ?_ _ | refine Below.drew ?_ | refine below_drewN ?_ _ | refine Below.trans ?_ (Below.mono (by assumption) ?_))) | omega | (simp; omega) | (simp; done)); done) | (repeat' first | exact Below.refl _ _ | assumption | refine Below.setCell ?_ (by first | omega | (simp; omega) | (simp; done)) _ | refine Below.alloc ?_ (by first | omega | (simp; omega) | (simp; done)) _ | refine Below.drew ?_ | refine below_drewN ?_ _ | refine Below.trans ?_ (Below.mono (by assumption) (by first | omega | (simp; omega) | (simp; done)))))
  · have HN := Lib.hid (HMiss.out (fun a b c h h2 => by rw [← h, hall] at h2; cases h2))
    clear hall
    go_wp2_with fail
    refine bodyPost_ret (v := .tuple #[.agg #[.int .i64 0, .int .i64 0, .int .i64 0], .bool false]) (by simp [results, Tryz.results22, go_sem, *]) rfl ⟨⟨0, 0, 0⟩, false, rfl, HN.out, ?_⟩
    (first | ((repeat' first | (with_reducible (first | exact Below.refl _ _ | assumption | refine Below.setCell ?_ ?_ _ | refine Below.alloc ?_ ?_ _ | refine Below.drew ?_ | refine below_drewN ?_ _ | refine Below.trans ?_ (Below.mono (by assumption) ?_))) | omega | (simp; omega) | (simp; done)); done) | (repeat' first | exact Below.refl _ _ | assumption | refine Below.setCell ?_ (by first | omega | (simp; omega) | (simp; done)) _ | refine Below.alloc ?_ (by first | omega | (simp; omega) | (simp; done)) _ | refine Below.drew ?_ | refine below_drewN ?_ _ | refine Below.trans ?_ (Below.mono (by assumption) (by first | omega | (simp; omega) | (simp; done)))))
end Go.Proofs.YtgpledgjpjifcaaGreatDoor

namespace Go.Proofs.YtgpledgjpjifcaaGreatDoor
open Go.RowKit

def DrewD (g : Nat) (w : World) (e : Ending) (w' : World) : Prop := ∃ d : Debt, e = .returned (.agg #[.int .i64 d.From, .int .i64 d.To, .int .i64 d.Amt]) ∧ Crs w' g ∧ w.grownBy w' (some g)
def DrawnD (w : World) (e : Ending) (w' : World) : Prop := ∃ d : Debt, e = .returned (.agg #[.int .i64 d.From, .int .i64 d.To, .int .i64 d.Amt]) ∧ Below w.heap.size w w'
set_option maxRecDepth 100000 in
set_option maxHeartbeats 2000000 in
theorem s_l19One (g : Nat) (w : World) (hc : Crs w g) : Calls Tryz.prog 43 #[.pointer (some ⟨g, 0, none⟩)] w (DrewD g w) := by
  have hgw := hc.lt
  go_enter Tryz.func43, Tryz.ntmps43
  go_wp2_with fail
  refine (s_l19Debts g _ (hc.alloc _)).mono ?_
  rintro e w1 ⟨L, A, cap, rfl, hl, how, hc1, hg1⟩
  have z1 := hg1.size
  rw [sizeUp1] at z1
  have r1 := heap_grown hg1 (someNe (by omega)) (heap_at (n := w.heap.size) rfl)
  have hG1 : w.grownBy w1 (some g) := grown_trans (grown_alloc (World.grownBy.refl _ _) _) hg1
  have HO := Lib.hid how
  clear hg1 how
  obtain ⟨_, a0, a1, a2, af, az⟩ := own3 (g := w.heap.size) (Below.refl _ w1) (by omega) r1
  by_cases h0 : L.length = 0
  · have HR := Lib.hid r1
    have h0i : ((L.length : Int) == 0) = true := by rw [beq_iff_eq]; omega
    clear r1 h0
    go_wp2_with fail
    refine (s_l01Raw g _ hc1).mono ?_
    rintro e w2 ⟨x, hx1, hx2, rfl, hc2, hg2⟩
    have z2 := hg2.size
    have r2 := heap_grown hg2 (someNe (by omega)) HR.out
    have hG2 := grown_trans hG1 hg2
    obtain ⟨_, b0, b1, b2, bf, bz⟩ := own3 (g := w.heap.size) (Below.refl _ w2) (by omega) r2
    clear hg2 a0 a1 a2 af r2
    go_wp2_with fail
    refine bodyPost_ret (v := .agg #[.int .i64 1, .int .i64 2, .int .i64 x]) (by simp [results, Tryz.results43, go_sem, *]) rfl ⟨⟨1, 2, x⟩, rfl, ((hc2.set (by omega)).set (by omega)).set (by omega), grown_setNew (grown_setNew (grown_setNew hG2 (Nat.le_refl _) _ _) (Nat.le_refl _) _ _) (Nat.le_refl _) _ _⟩
  · have hlp : 0 < L.length := by omega
    have h0i : ((L.length : Int) == 0) = false := by rw [beq_eq_false_iff_ne]; omega
    have i1 : (0 : Int) < (L.length : Int) := by omega
    have h3 : ∃ q, A = some ⟨q, 0, none⟩ ∧ w.heap.size + 1 ≤ q := by
      rcases HO.out.open_ with ⟨e1, _⟩ | ⟨q, cp, hv, hB, _, _⟩
      · exfalso
        have h5 : (L.map Debt.cells).length = 0 := by first | exact e1 | (rw [e1]; rfl)
        rw [List.length_map] at h5
        omega
      · rw [sizeUp1] at hB
        injection hv with h1
        exact ⟨q, h1, hB⟩
    obtain ⟨q, rfl, hqB⟩ := h3
    obtain ⟨c0, c1, c2⟩ := HO.out.cells0 hlp
    have hcapl : L.length ≤ cap := by
      obtain ⟨A', cap'', e1, _, h2, _⟩ := HO.out.form
      rw [List.length_map] at h2
      injection e1 with _ _ e3
      omega
    obtain ⟨x, hx⟩ : ∃ x, L[0].From = x := ⟨_, rfl⟩
    obtain ⟨y, hy⟩ : ∃ y, L[0].To = y := ⟨_, rfl⟩
    obtain ⟨z, hz⟩ : ∃ z, L[0].Amt = z := ⟨_, rfl⟩
    rw [hx] at c0
    rw [hy] at c1
    rw [hz] at c2
    clear r1 h0 hx hy hz
    go_wp2_with fail
    refine bodyPost_ret (v := .agg #[.int .i64 x, .int .i64 y, .int .i64 z]) (by simp [results, Tryz.results43, go_sem, *]) rfl ⟨⟨x, y, z⟩, rfl, ((hc1.set (by omega)).set (by omega)).set (by omega), grown_setNew (grown_setNew (grown_setNew hG1 (Nat.le_refl _) _ _) (Nat.le_refl _) _ _) (Nat.le_refl _) _ _⟩
set_option maxRecDepth 100000 in
set_option maxHeartbeats 2000000 in
theorem s_DrawDebtText (A : Option Addr) (n cap : Nat) (w : World) (hc : Code w w.heap.size A n cap) : Calls Tryz.prog 13 #[.slice A n cap] w (DrawnD w) := by
  go_enter Tryz.func13, Tryz.ntmps13
  go_wp2_with fail
  refine (s_l01New A n cap _ ((hc.below ((Below.refl _ _).alloc (Nat.le_refl _) _)).more (by simp))).mono ?_
  rintro e w1 ⟨rfl, hc1, hb1, z1⟩
  simp only [sizeUp1] at hc1 hb1 z1 ⊢
  have r1 : w1.heap[w.heap.size]? = some (.cells #[.int .i64 0, .int .i64 0, .int .i64 0] 38) := heap_below hb1 (by omega) (heap_at rfl)
  have hB1 : Below w.heap.size w w1 := by (first | ((repeat' first | (with_reducible (first | exact Below.refl _ _ | assumption | refine Below.setCell ?_ ?_ _ | refine Below.alloc ?_ ?_ _ | refine Below.drew ?_ | refine below_drewN ?_ _ | refine Below.trans ?_ (Below.mono (by assumption) ?_))) | omega | (simp; omega) | (simp; done)); done) | (repeat' first | exact Below.refl _ _ | assumption | refine Below.setCell ?_ (by first | omega | (simp; omega) | (simp; done)) _ | refine Below.alloc ?_ (by first | omega | (simp; omega) | (simp; done)) _ | refine Below.drew ?_ | refine below_drewN ?_ _ | refine Below.trans ?_ (Below.mono (by assumption) (by first | omega | (simp; omega) | (simp; done)))))
  clear hb1
  obtain ⟨g, hg⟩ : ∃ g, w.heap.size + 1 = g := ⟨_, rfl⟩
  rw [hg] at hc1 z1 ⊢
  go_wp2_with fail
  refine (s_l19One g _ hc1).mono ?_
  rintro e w2 ⟨⟨x, y, z⟩, rfl, hc2, hg2⟩
  have z2 := hg2.size
  have r2 := heap_grown hg2 (someNe (by omega)) r1
  have hB2 : Below w.heap.size w w2 := hB1.grown hg2 (by omega) (fun k e => by cases e; omega)
  clear r1 hB1 hg2
  obtain ⟨_, q0, q1, q2, qf, qz⟩ := own3 (Below.refl w2.heap.size w2) (Array.getElem?_eq_some_iff.1 r2).1 r2
  clear r2
  go_wp2_with fail
  refine bodyPost_ret (v := .agg #[.int .i64 x, .int .i64 y, .int .i64 z]) (by simp [results, Tryz.results13, go_sem, *]) rfl ⟨⟨x, y, z⟩, rfl, ?_⟩
  exact (((hB2.setCell (p := ⟨w.heap.size, 0, none⟩) (Nat.le_refl _) _).setCell (p := ⟨w.heap.size, 1, none⟩) (Nat.le_refl _) _).setCell (p := ⟨w.heap.size, 2, none⟩) (Nat.le_refl _) _).alloc (by simp; omega) _
set_option maxRecDepth 100000 in
set_option maxHeartbeats 2000000 in
theorem s_DrawLedgerText (A : Option Addr) (n cap : Nat) (w : World) (hc : Code w w.heap.size A n cap) :
    Calls Tryz.prog 14 #[.slice A n cap] w (DrawnSd w) := by
  go_enter Tryz.func14, Tryz.ntmps14
  go_wp2_with fail
  refine (s_l01New A n cap _ ((hc.below ((Below.refl _ _).alloc (Nat.le_refl _) _)).more (by simp))).mono ?_
  rintro e w1 ⟨rfl, hc1, hb1, z1⟩
  simp only [sizeUpL] at hc1 hb1 z1 ⊢
  have r1 : w1.heap[w.heap.size]? = some (.cells #[.int .i64 0, .slice none 0 0] 42 (0, 0)) := heap_below hb1 (by omega) (heap_at rfl)
  have hB1 : Below w.heap.size w w1 := by (first | ((repeat' first | (with_reducible (first | exact Below.refl _ _ | assumption | refine Below.setCell ?_ ?_ _ | refine Below.alloc ?_ ?_ _ | refine Below.drew ?_ | refine below_drewN ?_ _ | refine Below.trans ?_ (Below.mono (by assumption) ?_))) | omega | (simp; omega) | (simp; done)); done) | (repeat' first | exact Below.refl _ _ | assumption | refine Below.setCell ?_ (by first | omega | (simp; omega) | (simp; done)) _ | refine Below.alloc ?_ (by first | omega | (simp; omega) | (simp; done)) _ | refine Below.drew ?_ | refine below_drewN ?_ _ | refine Below.trans ?_ (Below.mono (by assumption) (by first | omega | (simp; omega) | (simp; done)))))
  clear hb1
  obtain ⟨g, hg⟩ : ∃ g, w.heap.size + 1 = g := ⟨_, rfl⟩
  rw [hg] at hc1 z1 ⊢
  go_wp2_with fail
  refine (s_l02AnyLedger g _ hc1).mono ?_
  rintro e w2 ⟨z, L, A2, cap2, rfl, hl, how, hc2, hg2⟩
  have z2 := hg2.size
  have r2 := heap_grown hg2 (someNeL (by omega)) r1
  have hB2 : Below w.heap.size w w2 := hB1.grown hg2 (by omega) (fun k e => by cases e; omega)
  have HO2 := Lib.hid how
  clear r1 hB1 how hg2
  obtain ⟨_, q0, q1, qf, qz⟩ := own2 (Below.refl w2.heap.size w2) (Array.getElem?_eq_some_iff.1 r2).1 r2
  go_wp2_with fail
  obtain ⟨s0, s1⟩ := two_selfL (a := .int .i64 z) (b := .slice A2 L.length cap2) r2
  refine bodyPost_ret (v := .agg #[.int .i64 z, .slice A2 L.length cap2]) (by simp [results, Tryz.results14, go_sem, qz, s0, s1]) rfl ⟨z, L, A2, cap2, rfl, hl, ?_, ?_⟩
  · exact (((HO2.out.far (a := ⟨w.heap.size, 0, none⟩) (by simp only; omega) _).far (a := ⟨w.heap.size, 1, none⟩) (by simp only; omega) _).alloc _).rd
  · exact ((hB2.setCell (p := ⟨w.heap.size, 0, none⟩) (Nat.le_refl _) _).setCell (p := ⟨w.heap.size, 1, none⟩) (Nat.le_refl _) _).alloc (by simp; omega) _
set_option maxRecDepth 100000 in
set_option maxHeartbeats 2000000 in
theorem s_DrawPostingText (A : Option Addr) (n cap : Nat) (w : World) (hc : Code w w.heap.size A n cap) :
    Calls Tryz.prog 15 #[.slice A n cap] w (DrawnSd w) := by
  go_enter Tryz.func15, Tryz.ntmps15
  go_wp2_with fail
  refine (s_l01New A n cap _ ((hc.below ((Below.refl _ _).alloc (Nat.le_refl _) _)).more (by simp))).mono ?_
  rintro e w1 ⟨rfl, hc1, hb1, z1⟩
  simp only [sizeUpL] at hc1 hb1 z1 ⊢
  have r1 : w1.heap[w.heap.size]? = some (.cells #[.int .i64 0, .slice none 0 0] 45 (0, 0)) := heap_below hb1 (by omega) (heap_at rfl)
  have hB1 : Below w.heap.size w w1 := by (first | ((repeat' first | (with_reducible (first | exact Below.refl _ _ | assumption | refine Below.setCell ?_ ?_ _ | refine Below.alloc ?_ ?_ _ | refine Below.drew ?_ | refine below_drewN ?_ _ | refine Below.trans ?_ (Below.mono (by assumption) ?_))) | omega | (simp; omega) | (simp; done)); done) | (repeat' first | exact Below.refl _ _ | assumption | refine Below.setCell ?_ (by first | omega | (simp; omega) | (simp; done)) _ | refine Below.alloc ?_ (by first | omega | (simp; omega) | (simp; done)) _ | refine Below.drew ?_ | refine below_drewN ?_ _ | refine Below.trans ?_ (Below.mono (by assumption) (by first | omega | (simp; omega) | (simp; done)))))
  clear hb1
  obtain ⟨g, hg⟩ : ∃ g, w.heap.size + 1 = g := ⟨_, rfl⟩
  rw [hg] at hc1 z1 ⊢
  go_wp2_with fail
  refine (s_l20Posting g _ hc1).mono ?_
  rintro e w2 ⟨z, L, A2, cap2, rfl, hl0, how, hc2, hg2⟩
  have hl : L.length ≤ 320 := by omega
  have z2 := hg2.size
  have r2 := heap_grown hg2 (someNeL (by omega)) r1
  have hB2 : Below w.heap.size w w2 := hB1.grown hg2 (by omega) (fun k e => by cases e; omega)
  have HO2 := Lib.hid how
  clear r1 hB1 how hg2
  obtain ⟨_, q0, q1, qf, qz⟩ := own2 (Below.refl w2.heap.size w2) (Array.getElem?_eq_some_iff.1 r2).1 r2
  go_wp2_with fail
  obtain ⟨s0, s1⟩ := two_selfL (a := .int .i64 z) (b := .slice A2 L.length cap2) r2
  refine bodyPost_ret (v := .agg #[.int .i64 z, .slice A2 L.length cap2]) (by simp [results, Tryz.results15, go_sem, qz, s0, s1]) rfl ⟨z, L, A2, cap2, rfl, hl, ?_, ?_⟩
  · exact (((HO2.out.far (a := ⟨w.heap.size, 0, none⟩) (by simp only; omega) _).far (a := ⟨w.heap.size, 1, none⟩) (by simp only; omega) _).alloc _).rd
  · exact ((hB2.setCell (p := ⟨w.heap.size, 0, none⟩) (Nat.le_refl _) _).setCell (p := ⟨w.heap.size, 1, none⟩) (Nat.le_refl _) _).alloc (by simp; omega) _
end Go.Proofs.YtgpledgjpjifcaaGreatDoor

namespace Go.Proofs.YtgpledgjpjifcaaGreatDoor
open Go.RowKit

/-- no account of a kind below k (of the kind k, below the number c) has this text -/
def NoKind (s : List UInt8) (k : Int) : Prop := ∀ k' c, k' < k → accB k' c = true → accL k' c ≠ s
def NoNum (s : List UInt8) (k c : Int) : Prop := ∀ c', c' < c → accB k c' = true → accL k c' ≠ s
theorem NoKind.zero (s : List UInt8) : NoKind s 1 := fun k' c h hb => by
  have := accB_iff.1 hb
  omega
theorem NoKind.next {s : List UInt8} {k : Int} (h : NoKind s k) (h2 : ∀ c, accB k c = true → accL k c ≠ s) : NoKind s (k + 1) := fun k' c hk hb => by
  by_cases e : k' = k
  · subst e
    exact h2 c hb
  · exact h k' c (by omega) hb
theorem NoKind.done {s : List UInt8} (h : NoKind s 9) : AccIs s 0 0 false := Or.inr ⟨rfl, rfl, rfl, fun k' c' hb => h k' c' (by have := accB_iff.1 hb; omega) hb⟩
theorem NoNum.zero (s : List UInt8) (k : Int) : NoNum s k 0 := fun c' h hb => by
  have := accB_iff.1 hb
  omega
theorem NoNum.next {s : List UInt8} {k c : Int} (h : NoNum s k c) (h2 : accB k c = true → accL k c ≠ s) : NoNum s k (c + 1) := fun c' hc hb => by
  by_cases e : c' = c
  · subst e
    exact h2 hb
  · exact h c' (by omega) hb
theorem NoNum.done {s : List UInt8} {k : Int} (h : NoNum s k 100) : ∀ c, accB k c = true → accL k c ≠ s := fun c hb => h c (by have := accB_iff.1 hb; omega) hb
theorem acc_hit {k c : Int} {s : List UInt8} (hs : s ≠ []) (h : accL k c = s) : AccIs s k c true := by
  refine Or.inl ⟨rfl, ?_, h⟩
  cases hb : accB k c with
  | true => rfl
  | false =>
    exfalso
    refine hs ?_
    rw [← h]
    unfold accL
    rw [hb]
    rfl
theorem pre_of (a b : List UInt8) : Lib.hasPrefix (a ++ b) a = true := by
  unfold Lib.hasPrefix
  simp
theorem trim_of (a b : List UInt8) : Lib.trimPrefix (a ++ b) a = b := by
  unfold Lib.trimPrefix
  rw [pre_of, if_pos rfl]
  simp
theorem acc_form {k c : Int} (h : accB k c = true) : accL k c = wordL k ++ (if 0 < c then numL c else []) := by
  unfold accL
  rw [if_pos h]
/-- the word does not stand ahead: no account of this kind -/
theorem kind_no {s : List UInt8} {k : Int} (h : Lib.hasPrefix s (wordL k) = false) : ∀ c, accB k c = true → accL k c ≠ s := by
  rintro c hb rfl
  rw [acc_form hb, pre_of] at h
  cases h
/-- the word stands ahead, but the number behind it is another -/
theorem kind_other {s : List UInt8} {k : Int} (h : accL k (numOf (Lib.trimPrefix s (wordL k))) ≠ s) : ∀ c, accB k c = true → accL k c ≠ s := by
  rintro c hb rfl
  refine h ?_
  have e : numOf (Lib.trimPrefix (accL k c) (wordL k)) = c := by
    rw [acc_form hb, trim_of]
    rcases accB_iff.1 hb with ⟨_, hc⟩ | ⟨_, rfl⟩
    · rw [if_pos (by omega)]
      exact (num_at (numB_iff.2 (by omega))).1
    · rw [if_neg (by omega)]
      exact num_empty.1
  rw [e]
theorem pre_ne {s : List UInt8} {k : Int} (hk : 1 ≤ k ∧ k ≤ 8) (h : Lib.hasPrefix s (wordL k) = true) : s ≠ [] := by
  rintro rfl
  have : k = 1 ∨ k = 2 ∨ k = 3 ∨ k = 4 ∨ k = 5 ∨ k = 6 ∨ k = 7 ∨ k = 8 := by omega
  rcases this with rfl | rfl | rfl | rfl | rfl | rfl | rfl | rfl <;> exact absurd h (by decide)
theorem trim_len (s p : List UInt8) : (Lib.trimPrefix s p).length ≤ s.length := by
  unfold Lib.trimPrefix
  split
  · simp
  · exact Nat.le_refl _
/-- an account that is read -/
def AcP (s : ByteArray) (w : World) (e : Ending) (w' : World) : Prop :=
  ∃ (k c : Int) (ok : Bool), e = .returned (.tuple #[.agg #[.int .i64 k, .int .i64 c], .bool ok]) ∧ AccIs s.data.toList k c ok ∧ Below w.heap.size w w'
theorem heap_set2 {w : World} {g : Nat} {t : TypeId} {a b : Value} (h : w.heap[g]? = some (.cells #[a, b] t (0, 0))) (u : Value) :
    (w.setCell ⟨g, 0, none⟩ u).heap[g]? = some (.cells #[u, b] t (0, 0)) ∧ (w.setCell ⟨g, 1, none⟩ u).heap[g]? = some (.cells #[a, u] t (0, 0)) :=
  ⟨heap_set h, heap_set h⟩
set_option maxRecDepth 100000 in
set_option maxHeartbeats 2000000 in
theorem i_TextAcc (s : ByteArray) (w : World) (hld : Le w) (hs : s.size ≤ 1048576) : Calls Tryz.prog 109 #[.string s] w (AcP s w) := by
  have HLD := Lib.hid hld
  have hz : s.data.toList.length = s.size := Array.length_toList
  clear hld
  go_enter Tryz.func109, Tryz.ntmps109
  go_wp2_with fail
  go_loopw [4] (fun i wr => ∃ k : Nat, 1 ≤ k ∧ k ≤ 9 ∧ i = .int .i64 k ∧ Hid (NoKind s.data.toList k) ∧ wr.heap[w.heap.size]? = some (.cells #[.int .i64 0, .int .i64 0] 82 (0, 0)) ∧ Below w.heap.size w wr) (fun i _ => 9 - (intOf i).toNat)
  case atStart => exact ⟨1, by omega, by omega, rfl, Lib.hid (NoKind.zero _), heap_at rfl, by (first | ((repeat' first | (with_reducible (first | exact Below.refl _ _ | assumption | refine Below.setCell ?_ ?_ _ | refine Below.alloc ?_ ?_ _ | refine Below.drew ?_ | refine below_drewN ?_ _ | refine Below.trans ?_ (Below.mono (by assumption) ?_))) | omega | (simp; omega) | (simp; done)); done) | (repeat' first | exact Below.refl _ _ | assumption | refine Below.setCell ?_ (by first | omega | (simp; omega) | (simp; done)) _ | refine Below.alloc ?_ (by first | omega | (simp; omega) | (simp; done)) _ | refine Below.drew ?_ | refine below_drewN ?_ _ | refine Below.trans ?_ (Below.mono (by assumption) (by first | omega | (simp; omega) | (simp; done)))))⟩
  case round =>
    obtain ⟨k, hk1, hk9, rfl, HNK, hres, hbw⟩ := hrel
    have hbz := hbw.size
    have hrl := (Array.getElem?_eq_some_iff.1 hres).1
    have HRes := Lib.hid hres
    by_cases hlt : k ≤ 8
    · clear hres
      have i0 : (0 : Int) ≤ (k : Int) := by omega
      have i1 : (k : Int) < 9 := by omega
      obtain ⟨p, hp', hp⟩ := str_of (wordL k)
      obtain ⟨rest, hr', hr⟩ := str_of (Lib.trimPrefix s.data.toList (wordL k))
      have hrs : rest.size ≤ 281474976710656 := by
        have := trim_len s.data.toList (wordL k)
        rw [hr.out.size]
        omega
      have HCut := Lib.hid (fun W => Tryz.strings_CutPrefix s p W)
      have HPD := Lib.hid hp.out.data
      rw [hp.out.data, hr'] at HCut
      clear hz
      go_wp2_with fail
      refine (i_words k _ (HLD.out.below hbw).toLd (by omega)).mono ?_
      rintro e w1 ⟨rfl, hcell, hb1⟩
      have z1 := hb1.size
      rw [hp'] at hcell
      have hr1 := heap_below hb1 hrl HRes.out
      have hbA : Below w.heap.size w w1 := by (first | ((repeat' first | (with_reducible (first | exact Below.refl _ _ | assumption | refine Below.setCell ?_ ?_ _ | refine Below.alloc ?_ ?_ _ | refine Below.drew ?_ | refine below_drewN ?_ _ | refine Below.trans ?_ (Below.mono (by assumption) ?_))) | omega | (simp; omega) | (simp; done)); done) | (repeat' first | exact Below.refl _ _ | assumption | refine Below.setCell ?_ (by first | omega | (simp; omega) | (simp; done)) _ | refine Below.alloc ?_ (by first | omega | (simp; omega) | (simp; done)) _ | refine Below.drew ?_ | refine below_drewN ?_ _ | refine Below.trans ?_ (Below.mono (by assumption) (by first | omega | (simp; omega) | (simp; done)))))
      clear hb1 hp' hr'
      cases hpre : Lib.hasPrefix s.data.toList (wordL k)
      · have HN2 := Lib.hid (show NoKind s.data.toList ((k : Int) + 1) from HNK.out.next (kind_no hpre))
        rw [hpre] at HCut
        clear hpre
        go_wp2_with fail
        refine (HCut.out _).mono ?_
        rintro e w2 ⟨rfl, rfl⟩
        go_wp2_with fail
        go_roundw
        case rel => exact ⟨k + 1, by omega, by omega, by go_num, Lib.hid (by simpa using HN2.out), hr1, hbA⟩
        case measure => simp [intOf]; omega
      · have HNe := Lib.hid (pre_ne ⟨by omega, by omega⟩ hpre)
        have HOth := Lib.hid (kind_other (s := s.data.toList) (k := k))
        rw [hpre] at HCut
        clear hpre
        go_wp2_with fail
        refine (HCut.out _).mono ?_
        rintro e w2 ⟨rfl, rfl⟩
        go_wp2_with fail
        refine (i_TextNum rest _ (HLD.out.below hbA) hrs).mono ?_
        rintro e w3 ⟨rfl, hb3⟩
        have z3 := hb3.size
        rw [hr.out.data]
        obtain ⟨n, hn⟩ : ∃ n, numOf (Lib.trimPrefix s.data.toList (wordL k)) = n := ⟨_, rfl⟩
        obtain ⟨nok, hnok⟩ : ∃ n, numOk (Lib.trimPrefix s.data.toList (wordL k)) = n := ⟨_, rfl⟩
        rw [hn, hnok]
        rw [hn] at HOth
        have hr3 := heap_below hb3 (by omega) hr1
        have hbB : Below w.heap.size w w3 := by (first | ((repeat' first | (with_reducible (first | exact Below.refl _ _ | assumption | refine Below.setCell ?_ ?_ _ | refine Below.alloc ?_ ?_ _ | refine Below.drew ?_ | refine below_drewN ?_ _ | refine Below.trans ?_ (Below.mono (by assumption) ?_))) | omega | (simp; omega) | (simp; done)); done) | (repeat' first | exact Below.refl _ _ | assumption | refine Below.setCell ?_ (by first | omega | (simp; omega) | (simp; done)) _ | refine Below.alloc ?_ (by first | omega | (simp; omega) | (simp; done)) _ | refine Below.drew ?_ | refine below_drewN ?_ _ | refine Below.trans ?_ (Below.mono (by assumption) (by first | omega | (simp; omega) | (simp; done)))))
        have HR3 := Lib.hid hr3
        clear hb3 hr1 hr3 hn hnok hbA hcell
        go_wp2_with fail
        refine (i_AccText _ _ _ (HLD.out.below (by (first | ((repeat' first | (with_reducible (first | exact Below.refl _ _ | assumption | refine Below.setCell ?_ ?_ _ | refine Below.alloc ?_ ?_ _ | refine Below.drew ?_ | refine below_drewN ?_ _ | refine Below.trans ?_ (Below.mono (by assumption) ?_))) | omega | (simp; omega) | (simp; done)); done) | (repeat' first | exact Below.refl _ _ | assumption | refine Below.setCell ?_ (by first | omega | (simp; omega) | (simp; done)) _ | refine Below.alloc ?_ (by first | omega | (simp; omega) | (simp; done)) _ | refine Below.drew ?_ | refine below_drewN ?_ _ | refine Below.trans ?_ (Below.mono (by assumption) (by first | omega | (simp; omega) | (simp; done))))))).toLd).mono ?_
        rintro e w4 ⟨rfl, hb4⟩
        have z4 := hb4.size
        (try simp at z4)
        obtain ⟨t, ht', ht⟩ := str_of (accL k n)
        rw [ht']
        clear ht'
        obtain ⟨bh, b0, b1, bf, bz⟩ := own2 (g := w3.heap.size) hb4 (by first | omega | (simp; omega) | (simp; done)) (by (first | ((repeat' first | (with_reducible (first | assumption | (refine heap_at ?_; (first | rfl | (simp; done))) | refine heap_drew ?_ | refine heap_drewN ?_ | refine heap_past ?_ ?_ | refine heap_far ?_ ?_)) | (simp; done) | (simp; omega)); done) | (repeat' first | assumption | (refine heap_at ?_; (simp; done)) | refine heap_drew ?_ | refine heap_drewN ?_ | (refine heap_past ?_ ?_ <;> try (simp; done)) | (refine heap_far ?_ ?_ <;> try (simp; done)))))
        have hr4 := heap_below hb4 (by simp; omega) (heap_past (by omega) HR3.out)
        have hbC : Below w.heap.size w w4 := by (first | ((repeat' first | (with_reducible (first | exact Below.refl _ _ | assumption | refine Below.setCell ?_ ?_ _ | refine Below.alloc ?_ ?_ _ | refine Below.drew ?_ | refine below_drewN ?_ _ | refine Below.trans ?_ (Below.mono (by assumption) ?_))) | omega | (simp; omega) | (simp; done)); done) | (repeat' first | exact Below.refl _ _ | assumption | refine Below.setCell ?_ (by first | omega | (simp; omega) | (simp; done)) _ | refine Below.alloc ?_ (by first | omega | (simp; omega) | (simp; done)) _ | refine Below.drew ?_ | refine below_drewN ?_ _ | refine Below.trans ?_ (Below.mono (by assumption) (by first | omega | (simp; omega) | (simp; done)))))
        clear hb4
        by_cases et : t = s
        · have HN := Lib.hid (acc_hit HNe.out (eq_str ht.out et))
          obtain ⟨_, g0, g1, gf, gz⟩ := own2 (g := w.heap.size) (Below.refl _ w4) (by omega) hr4
          clear hr4
          subst et
          go_wp2_with fail
          refine bodyPost_ret (v := .tuple #[.agg #[.int .i64 k, .int .i64 n], .bool true]) (by simp [results, Tryz.results109, go_sem, *]) rfl ⟨k, n, true, rfl, HN.out, ?_⟩
          (first | ((repeat' first | (with_reducible (first | exact Below.refl _ _ | assumption | refine Below.setCell ?_ ?_ _ | refine Below.alloc ?_ ?_ _ | refine Below.drew ?_ | refine below_drewN ?_ _ | refine Below.trans ?_ (Below.mono (by assumption) ?_))) | omega | (simp; omega) | (simp; done)); done) | (repeat' first | exact Below.refl _ _ | assumption | refine Below.setCell ?_ (by first | omega | (simp; omega) | (simp; done)) _ | refine Below.alloc ?_ (by first | omega | (simp; omega) | (simp; done)) _ | refine Below.drew ?_ | refine below_drewN ?_ _ | refine Below.trans ?_ (Below.mono (by assumption) (by first | omega | (simp; omega) | (simp; done)))))
        · have HN2 := Lib.hid (show NoKind s.data.toList ((k : Int) + 1) from HNK.out.next (HOth.out (ne_str ht.out et)))
          have hne := neq_str et
          clear et
          go_wp2_with fail
          go_roundw
          case rel => exact ⟨k + 1, by omega, by omega, by go_num, Lib.hid (by simpa using HN2.out), hr4, hbC⟩
          case measure => simp [intOf]; omega
    · obtain rfl : k = 9 := by omega
      have HN := Lib.hid (NoKind.done HNK.out)
      obtain ⟨_, a0, a1, af, az⟩ := own2 (g := w.heap.size) (Below.refl _ wr) hrl hres
      clear hres
      clear hz
      go_wp2_with fail
      refine bodyPost_ret (v := .tuple #[.agg #[.int .i64 0, .int .i64 0], .bool false]) (by simp [results, Tryz.results109, go_sem, *]) rfl ⟨0, 0, false, rfl, HN.out, ?_⟩
      (first | ((repeat' first | (with_reducible (first | exact Below.refl _ _ | assumption | refine Below.setCell ?_ ?_ _ | refine Below.alloc ?_ ?_ _ | refine Below.drew ?_ | refine below_drewN ?_ _ | refine Below.trans ?_ (Below.mono (by assumption) ?_))) | omega | (simp; omega) | (simp; done)); done) | (repeat' first | exact Below.refl _ _ | assumption | refine Below.setCell ?_ (by first | omega | (simp; omega) | (simp; done)) _ | refine Below.alloc ?_ (by first | omega | (simp; omega) | (simp; done)) _ | refine Below.drew ?_ | refine below_drewN ?_ _ | refine Below.trans ?_ (Below.mono (by assumption) (by first | omega | (simp; omega) | (simp; done)))))
end Go.Proofs.YtgpledgjpjifcaaGreatDoor

namespace Go.Proofs.YtgpledgjpjifcaaGreatDoor
open Go.RowKit

/-- what is read, where the text is that of a valid line -/
def LineIs (b : UInt8) (l : List UInt8) (x : Line) (ok : Bool) : Prop :=
  ∀ y : Line, accB y.Kind y.Ch = true → numB y.Amt = true → l = accL y.Kind y.Ch ++ b :: numL y.Amt → x = y ∧ ok = true
def LnP (b : UInt8) (l : List UInt8) (w : World) (e : Ending) (w' : World) : Prop :=
  ∃ (x : Line) (ok : Bool), e = .returned (.tuple #[.agg #[.int .i64 x.Kind, .int .i64 x.Ch, .int .i64 x.Amt], .bool ok]) ∧ LineIs b l x ok ∧ Below w.heap.size w w'
theorem lineIs_of {b : UInt8} {l f g : List UInt8} {okc one : Bool} {k c : Int} (hb : b = 32 ∨ b = 58) (hc : Lib.cut l [b] = (f, g, okc)) (ha : AccIs f k c one) : LineIs b l ⟨k, c, numOf g⟩ (okc && one && numOk g) := by
  intro y h1 h2 e
  have hno : b ∉ accL y.Kind y.Ch := acc_no (by rcases hb with rfl | rfl <;> simp)
  rw [e, cut_mid hno] at hc
  simp only [Prod.mk.injEq] at hc
  obtain ⟨rfl, rfl, rfl⟩ := hc
  obtain ⟨rfl, rfl, rfl⟩ := ha.of h1
  rw [(num_at h2).1, (num_at h2).2]
  exact ⟨Line.ext' rfl rfl rfl, rfl⟩
theorem cut_len (l p : List UInt8) : (Lib.cut l p).1.length ≤ l.length ∧ (Lib.cut l p).2.1.length ≤ l.length := by
  unfold Lib.cut
  split
  · simp
    omega
  · simp
theorem below_drewN' (w : World) (n : Nat) : Below w.heap.size w (w.drewN n) := below_drewN (Below.refl _ _) n
set_option maxRecDepth 100000 in
set_option maxHeartbeats 2000000 in
theorem i_textLine (s : ByteArray) (b : UInt8) (w : World) (hld : Le w) (hb : b = 32 ∨ b = 58) (hs : s.size ≤ 1048576) : Calls Tryz.prog 60 #[.string s, .string ⟨#[b]⟩] w (LnP b s.data.toList w) := by
  have HLD := Lib.hid hld
  have hz : s.data.toList.length = s.size := Array.length_toList
  have hcl := cut_len s.data.toList [b]
  obtain ⟨m, hm⟩ := hld.toLd.ml
  have HB := Lib.hid hb
  obtain ⟨f, hf', hf⟩ := str_of (Lib.cut s.data.toList [b]).1
  obtain ⟨g, hg', hg⟩ := str_of (Lib.cut s.data.toList [b]).2.1
  obtain ⟨okc, hokc⟩ : ∃ o, (Lib.cut s.data.toList [b]).2.2 = o := ⟨_, rfl⟩
  have HCut := Lib.hid (fun (W : World) (hM : W.cell? ⟨0, 0, none⟩ = some (.int .i64 m)) => Tryz.strings_Cut s ⟨#[b]⟩ m W (by omega) hM)
  have eb : (⟨#[b]⟩ : ByteArray).data.toList = [b] := rfl
  rw [eb, hf', hg', hokc] at HCut
  have HC := Lib.hid (show Lib.cut s.data.toList [b] = (f.data.toList, g.data.toList, okc) by
    rw [hf.out.data, hg.out.data, ← hokc])
  have hfs : f.size ≤ 1048576 := by rw [hf.out.size]; omega
  have hgs : g.size ≤ 281474976710656 := by rw [hg.out.size]; omega
  have HM := Lib.hid hm
  have hml : 0 < w.heap.size := Lib.lt_of_cell hm
  have HML := Lib.hid hml
  clear hld hz hcl hm hb hf' hg' hokc eb hf hg hml
  go_enter Tryz.func60, Tryz.ntmps60
  go_wp2_with fail
  refine (HCut.out _ (cell_past HML.out HM.out)).mono ?_
  rintro e w1 ⟨rfl, n1, rfl⟩
  have hb1 := below_drewN' (w.alloc (.cells #[.int .i64 0, .int .i64 0, .int .i64 0] 84)) n1
  have z1 := hb1.size
  obtain ⟨w1, hw1⟩ : ∃ w1, (w.alloc (.cells #[.int .i64 0, .int .i64 0, .int .i64 0] 84)).drewN n1 = w1 := ⟨_, rfl⟩
  rw [hw1] at hb1 z1 ⊢
  (try simp at z1)
  clear hw1 HCut
  have hr1 := heap_below (n := w.heap.size) hb1 (by simp) (heap_at rfl)
  have HR1 := Lib.hid hr1
  have hbA : Below w.heap.size w w1 := by (first | ((repeat' first | (with_reducible (first | exact Below.refl _ _ | assumption | refine Below.setCell ?_ ?_ _ | refine Below.alloc ?_ ?_ _ | refine Below.drew ?_ | refine below_drewN ?_ _ | refine Below.trans ?_ (Below.mono (by assumption) ?_))) | omega | (simp; omega) | (simp; done)); done) | (repeat' first | exact Below.refl _ _ | assumption | refine Below.setCell ?_ (by first | omega | (simp; omega) | (simp; done)) _ | refine Below.alloc ?_ (by first | omega | (simp; omega) | (simp; done)) _ | refine Below.drew ?_ | refine below_drewN ?_ _ | refine Below.trans ?_ (Below.mono (by assumption) (by first | omega | (simp; omega) | (simp; done)))))
  clear hb1 hr1
  go_wp2_with fail
  refine (i_TextAcc f _ (HLD.out.below (by (first | ((repeat' first | (with_reducible (first | exact Below.refl _ _ | assumption | refine Below.setCell ?_ ?_ _ | refine Below.alloc ?_ ?_ _ | refine Below.drew ?_ | refine below_drewN ?_ _ | refine Below.trans ?_ (Below.mono (by assumption) ?_))) | omega | (simp; omega) | (simp; done)); done) | (repeat' first | exact Below.refl _ _ | assumption | refine Below.setCell ?_ (by first | omega | (simp; omega) | (simp; done)) _ | refine Below.alloc ?_ (by first | omega | (simp; omega) | (simp; done)) _ | refine Below.drew ?_ | refine below_drewN ?_ _ | refine Below.trans ?_ (Below.mono (by assumption) (by first | omega | (simp; omega) | (simp; done))))))) hfs).mono ?_
  rintro e w2 ⟨k, c, one, rfl, hacc, hb2⟩
  have z2 := hb2.size
  have hr2 := heap_below hb2 (by omega) HR1.out
  have HR2 := Lib.hid hr2
  have HX := Lib.hid (lineIs_of HB.out HC.out hacc)
  have hbB : Below w.heap.size w w2 := by (first | ((repeat' first | (with_reducible (first | exact Below.refl _ _ | assumption | refine Below.setCell ?_ ?_ _ | refine Below.alloc ?_ ?_ _ | refine Below.drew ?_ | refine below_drewN ?_ _ | refine Below.trans ?_ (Below.mono (by assumption) ?_))) | omega | (simp; omega) | (simp; done)); done) | (repeat' first | exact Below.refl _ _ | assumption | refine Below.setCell ?_ (by first | omega | (simp; omega) | (simp; done)) _ | refine Below.alloc ?_ (by first | omega | (simp; omega) | (simp; done)) _ | refine Below.drew ?_ | refine below_drewN ?_ _ | refine Below.trans ?_ (Below.mono (by assumption) (by first | omega | (simp; omega) | (simp; done)))))
  clear hb2 hr2 hacc HR1
  go_wp2_with fail
  refine (i_TextNum g _ (HLD.out.below (by (first | ((repeat' first | (with_reducible (first | exact Below.refl _ _ | assumption | refine Below.setCell ?_ ?_ _ | refine Below.alloc ?_ ?_ _ | refine Below.drew ?_ | refine below_drewN ?_ _ | refine Below.trans ?_ (Below.mono (by assumption) ?_))) | omega | (simp; omega) | (simp; done)); done) | (repeat' first | exact Below.refl _ _ | assumption | refine Below.setCell ?_ (by first | omega | (simp; omega) | (simp; done)) _ | refine Below.alloc ?_ (by first | omega | (simp; omega) | (simp; done)) _ | refine Below.drew ?_ | refine below_drewN ?_ _ | refine Below.trans ?_ (Below.mono (by assumption) (by first | omega | (simp; omega) | (simp; done))))))) hgs).mono ?_
  rintro e w3 ⟨rfl, hb3⟩
  have z3 := hb3.size
  (try simp at z3)
  obtain ⟨x, hx⟩ : ∃ x, numOf g.data.toList = x := ⟨_, rfl⟩
  obtain ⟨two, h2⟩ : ∃ x, numOk g.data.toList = x := ⟨_, rfl⟩
  rw [hx, h2] at HX ⊢
  obtain ⟨ah, a0, a1, af, az⟩ := own2 (g := w2.heap.size) hb3 (by first | omega | (simp; omega) | (simp; done)) (by (first | ((repeat' first | (with_reducible (first | assumption | (refine heap_at ?_; (first | rfl | (simp; done))) | refine heap_drew ?_ | refine heap_drewN ?_ | refine heap_past ?_ ?_ | refine heap_far ?_ ?_)) | (simp; done) | (simp; omega)); done) | (repeat' first | assumption | (refine heap_at ?_; (simp; done)) | refine heap_drew ?_ | refine heap_drewN ?_ | (refine heap_past ?_ ?_ <;> try (simp; done)) | (refine heap_far ?_ ?_ <;> try (simp; done)))))
  have hr3 := heap_below hb3 (by simp; omega) (heap_past (by omega) HR2.out)
  obtain ⟨_, g0, g1, g2, gf, gz⟩ := own3 (g := w.heap.size) (Below.refl _ w3) (by omega) hr3
  have hbC : Below w.heap.size w w3 := by (first | ((repeat' first | (with_reducible (first | exact Below.refl _ _ | assumption | refine Below.setCell ?_ ?_ _ | refine Below.alloc ?_ ?_ _ | refine Below.drew ?_ | refine below_drewN ?_ _ | refine Below.trans ?_ (Below.mono (by assumption) ?_))) | omega | (simp; omega) | (simp; done)); done) | (repeat' first | exact Below.refl _ _ | assumption | refine Below.setCell ?_ (by first | omega | (simp; omega) | (simp; done)) _ | refine Below.alloc ?_ (by first | omega | (simp; omega) | (simp; done)) _ | refine Below.drew ?_ | refine below_drewN ?_ _ | refine Below.trans ?_ (Below.mono (by assumption) (by first | omega | (simp; omega) | (simp; done)))))
  clear hb3 hr3 HR2 hx h2 ah
  cases okc
  all_goals
    cases one
    all_goals
      go_wp2_with fail
      refine bodyPost_ret (v := .tuple #[.agg #[.int .i64 k, .int .i64 c, .int .i64 x], .bool (_ && _ && two)]) (by simp [results, Tryz.results60, go_sem, *] <;> rfl) rfl ⟨⟨k, c, x⟩, _, rfl, HX.out, ?_⟩
      (first | ((repeat' first | (with_reducible (first | exact Below.refl _ _ | assumption | refine Below.setCell ?_ ?_ _ | refine Below.alloc ?_ ?_ _ | refine Below.drew ?_ | refine below_drewN ?_ _ | refine Below.trans ?_ (Below.mono (by assumption) ?_))) | omega | (simp; omega) | (simp; done)); done) | (repeat' first | exact Below.refl _ _ | assumption | refine Below.setCell ?_ (by first | omega | (simp; omega) | (simp; done)) _ | refine Below.alloc ?_ (by first | omega | (simp; omega) | (simp; done)) _ | refine Below.drew ?_ | refine below_drewN ?_ _ | refine Below.trans ?_ (Below.mono (by assumption) (by first | omega | (simp; omega) | (simp; done)))))
end Go.Proofs.YtgpledgjpjifcaaGreatDoor

namespace Go.Proofs.YtgpledgjpjifcaaGreatDoor
open Go

section
variable {B : Int → List Line → Bool} {F : Int → List Line → List UInt8} {s : List UInt8}
/-- what stands read so far, where the text is that of a valid (z', l') -/
def RInv (B : Int → List Line → Bool) (F : Int → List Line → List UInt8) (s : List UInt8) (h : Bool) (m : Nat) (z : Int) (L : List Line) : Prop :=
  ∀ z' l', B z' l' = true → F z' l' = s → (h = true → z = z') ∧ L = l'.take m
theorem RInv.start : RInv B F s false 0 0 [] := fun _ _ _ _ => ⟨by simp, by simp⟩
theorem RInv.head {h : Bool} {m : Nat} {z0 z : Int} {L : List Line} (r : RInv B F s h m z0 L) (hz : ∀ z' l', B z' l' = true → F z' l' = s → z = z') : RInv B F s true m z L :=
  fun z' l' h1 h2 => ⟨fun _ => hz z' l' h1 h2, (r z' l' h1 h2).2⟩
theorem RInv.next {h : Bool} {m : Nat} {z : Int} {L : List Line} {x : Line} (r : RInv B F s h m z L) (hx : ∀ z' l', B z' l' = true → F z' l' = s → ∃ hm : m < l'.length, x = l'[m]) : RInv B F s h (m + 1) z (L ++ [x]) :=
  fun z' l' h1 h2 => ⟨(r z' l' h1 h2).1, by
    obtain ⟨hm, rfl⟩ := hx z' l' h1 h2
    rw [(r z' l' h1 h2).2, List.take_succ_eq_append_getElem hm]⟩
theorem RInv.stay {h : Bool} {m : Nat} {z : Int} {L : List Line} (r : RInv B F s h m z L) (hx : ∀ z' l', B z' l' = true → F z' l' = s → l'.length ≤ m) : RInv B F s h (m + 1) z L :=
  fun z' l' h1 h2 => ⟨(r z' l' h1 h2).1, by
    have := hx z' l' h1 h2
    rw [(r z' l' h1 h2).2, List.take_of_length_le this, List.take_of_length_le (by omega)]⟩
theorem RInv.miss {m : Nat} {z : Int} {L : List Line} (r : RInv B F s true m z L) (hl : ∀ z' l', B z' l' = true → F z' l' = s → l'.length ≤ m) (h : F z L ≠ s) : LedIs B F s 0 [] false := by
  refine Or.inr ⟨rfl, rfl, rfl, fun z' l' h1 h2 => h ?_⟩
  obtain ⟨h3, h4⟩ := r z' l' h1 h2
  rw [h3 rfl, h4, List.take_of_length_le (hl z' l' h1 h2)]
  exact h2
theorem led_none (h : ∀ z' l', B z' l' = true → F z' l' = s → False) : LedIs B F s 0 [] false := Or.inr ⟨rfl, rfl, rfl, fun z' l' h1 h2 => h z' l' h1 h2⟩
end
theorem led_hit {s : List UInt8} {z : Int} {L : List Line} (hs : s ≠ []) (h : ledgerL z L = s) : LedIs ledgerB ledgerL s z L true := by
  refine Or.inl ⟨rfl, ?_, h⟩
  cases hb : ledgerB z L with
  | true => rfl
  | false =>
    exfalso
    refine hs ?_
    rw [← h]
    unfold ledgerL
    rw [hb]
    rfl
theorem post_hit {s : List UInt8} {z : Int} {L : List Line} (hs : s ≠ []) (h : postingL z L = s) : LedIs postingB postingL s z L true := by
  refine Or.inl ⟨rfl, ?_, h⟩
  cases hb : postingB z L with
  | true => rfl
  | false =>
    exfalso
    refine hs ?_
    rw [← h]
    unfold postingL
    rw [hb]
    rfl
theorem led_cut {z : Int} {l : List Line} (h : ledgerB z l = true) : parts 10 (ledgerL z l) = ledC z :: (l.map rowC ++ [[]]) := by
  unfold ledgerL
  rw [if_pos h, led_parts]
theorem led_lines {z : Int} {l : List Line} (h : ledgerB z l = true) : linesL (ledgerL z l) = ledC z :: l.map rowC := by
  unfold linesL
  rw [led_cut h, if_pos]
  · rw [← List.cons_append, List.dropLast_concat]
  · rw [← List.cons_append, List.getLast?_concat]
theorem post_cut {z : Int} {l : List Line} (h : postingB z l = true) : parts 32 (postingL z l) = [112, 111, 115, 116] :: numL z :: l.map itemC := by
  unfold postingL
  rw [if_pos h, post_parts]
theorem led_text_ne {z : Int} {l : List Line} (h : ledgerB z l = true) : ledgerL z l ≠ [] := fun e => by
  have := led_cut h
  rw [e] at this
  simp [parts] at this
theorem post_text_ne {z : Int} {l : List Line} (h : postingB z l = true) : postingL z l ≠ [] := fun e => by
  have := post_cut h
  rw [e] at this
  simp [parts] at this
/-- the lines of a ledger's text -/
theorem led_line0 {s x : List UInt8} (hx : (linesL s)[0]? = some x) : ∀ z' l', ledgerB z' l' = true → ledgerL z' l' = s → x = ledC z' := by
  rintro z' l' h rfl
  rw [led_lines h] at hx
  simpa using hx.symm
theorem led_line {s x : List UInt8} {m : Nat} (hx : (linesL s)[m + 1]? = some x) : ∀ z' l', ledgerB z' l' = true → ledgerL z' l' = s → ∃ hm : m < l'.length, x = rowC l'[m] := by
  rintro z' l' h rfl
  rw [led_lines h, List.getElem?_cons_succ, List.getElem?_map] at hx
  by_cases hm : m < l'.length
  · rw [List.getElem?_eq_getElem hm] at hx
    exact ⟨hm, by simpa using hx.symm⟩
  · rw [List.getElem?_eq_none (by omega)] at hx
    cases hx
theorem led_count {s : List UInt8} : ∀ z' l', ledgerB z' l' = true → ledgerL z' l' = s → (linesL s).length = l'.length + 1 := by
  rintro z' l' h rfl
  rw [led_lines h]
  simp
/-- the pieces of a ledger's text -/
theorem led_part0 {s x : List UInt8} (hx : (parts 10 s)[0]? = some x) : ∀ z' l', ledgerB z' l' = true → ledgerL z' l' = s → x = ledC z' := by
  rintro z' l' h rfl
  rw [led_cut h] at hx
  simpa using hx.symm
theorem led_part {s x : List UInt8} {m : Nat} (hx : (parts 10 s)[m + 1]? = some x) : ∀ z' l', ledgerB z' l' = true → ledgerL z' l' = s → (∃ hm : m < l'.length, x = rowC l'[m]) ∨ (l'.length ≤ m ∧ x = []) := by
  rintro z' l' h rfl
  rw [led_cut h, List.getElem?_cons_succ] at hx
  by_cases hm : m < l'.length
  · rw [List.getElem?_append_left (by simpa using hm), List.getElem?_map, List.getElem?_eq_getElem hm] at hx
    exact Or.inl ⟨hm, by simpa using hx.symm⟩
  · rw [List.getElem?_append_right (by simpa using hm), List.length_map] at hx
    refine Or.inr ⟨by omega, ?_⟩
    have : m - l'.length = 0 := by
      refine Classical.byContradiction fun h0 => ?_
      rw [List.getElem?_eq_none (by simp; omega)] at hx
      cases hx
    rw [this] at hx
    simpa using hx.symm
theorem led_pieces {s : List UInt8} : ∀ z' l', ledgerB z' l' = true → ledgerL z' l' = s → (parts 10 s).length = l'.length + 2 := by
  rintro z' l' h rfl
  rw [led_cut h]
  simp
theorem led_num {z' : Int} {l' : List Line} (h : ledgerB z' l' = true) : numOf (Lib.trimPrefix (ledC z') [108, 101, 100, 103, 101, 114, 32]) = z' := by
  rw [ledC_trim]
  exact (num_at (ledger_nums h).1).1
theorem led_row {z' : Int} {l' : List Line} (h : ledgerB z' l' = true) {m : Nat} (hm : m < l'.length) : accB l'[m].Kind l'[m].Ch = true ∧ numB l'[m].Amt = true := (ledger_nums h).2 _ (List.getElem_mem hm)
theorem led_short {z' : Int} {l' : List Line} (h : ledgerB z' l' = true) : l'.length ≤ 320 := (ledgerB_iff.1 h).2.1
/-- one line more, by the program's reader -/
theorem led_read {s t : List UInt8} {m : Nat} {x : Line} {ok : Bool} (ht : (linesL s)[m + 1]? = some t) (hl : LineIs 32 t x ok) : ∀ z' l', ledgerB z' l' = true → ledgerL z' l' = s → ∃ hm : m < l'.length, x = l'[m] ∧ ok = true := by
  intro z' l' h1 h2
  obtain ⟨hm, e⟩ := led_line ht z' l' h1 h2
  have hr := led_row h1 hm
  exact ⟨hm, hl l'[m] hr.1 hr.2 e⟩
/-! ### postings -/
theorem post_part1 {s x : List UInt8} (hx : (parts 32 s)[1]? = some x) : ∀ z' l', postingB z' l' = true → postingL z' l' = s → x = numL z' := by
  rintro z' l' h rfl
  rw [post_cut h] at hx
  simpa using hx.symm
theorem post_part {s x : List UInt8} {m : Nat} (hx : (parts 32 s)[m + 2]? = some x) : ∀ z' l', postingB z' l' = true → postingL z' l' = s → ∃ hm : m < l'.length, x = itemC l'[m] := by
  rintro z' l' h rfl
  rw [post_cut h, List.getElem?_cons_succ, List.getElem?_cons_succ, List.getElem?_map] at hx
  by_cases hm : m < l'.length
  · rw [List.getElem?_eq_getElem hm] at hx
    exact ⟨hm, by simpa using hx.symm⟩
  · rw [List.getElem?_eq_none (by omega)] at hx
    cases hx
theorem post_count {s : List UInt8} : ∀ z' l', postingB z' l' = true → postingL z' l' = s → (parts 32 s).length = l'.length + 2 := by
  rintro z' l' h rfl
  rw [post_cut h]
  simp
theorem post_short {z' : Int} {l' : List Line} (h : postingB z' l' = true) : l'.length ≤ 8 := (postingB_iff.1 h).2.2.1
theorem post_row {z' : Int} {l' : List Line} (h : postingB z' l' = true) {m : Nat} (hm : m < l'.length) : accB l'[m].Kind l'[m].Ch = true ∧ numB l'[m].Amt = true := (posting_nums h).2 _ (List.getElem_mem hm)
theorem post_read {s t : List UInt8} {m : Nat} {x : Line} {ok : Bool} (ht : (parts 32 s)[m + 2]? = some t) (hl : LineIs 58 t x ok) : ∀ z' l', postingB z' l' = true → postingL z' l' = s → ∃ hm : m < l'.length, x = l'[m] ∧ ok = true := by
  intro z' l' h1 h2
  obtain ⟨hm, e⟩ := post_part ht z' l' h1 h2
  have hr := post_row h1 hm
  exact ⟨hm, hl l'[m] hr.1 hr.2 e⟩
theorem post_num {z' : Int} {l' : List Line} (h : postingB z' l' = true) : numOf (numL z') = z' := (num_at (posting_nums h).1).1
end Go.Proofs.YtgpledgjpjifcaaGreatDoor

namespace Go.Proofs.YtgpledgjpjifcaaGreatDoor
open Go.RowKit

set_option maxRecDepth 100000 in
set_option maxHeartbeats 2000000 in
theorem s_LedgerText (z : Int) (l : List Line) (A : Option Addr) (cap : Nat) (w : World) (hl : l.length ≤ 1048576) (hr : Rd w w.heap.size 3 A (l.map Line.cells)) :
    Calls Tryz.prog 20 #[.agg #[.int .i64 z, .slice A l.length cap]] w fun e w' => e = .returned (.string ⟨(ledgerL z l).toArray⟩) ∧ Below w.heap.size w w' := by
  have HR := Lib.hid hr
  clear hr
  cases hB : ledgerB z l
  · have HE := Lib.hid (show ledgerL z l = [] by unfold ledgerL; rw [hB]; rfl)
    have HB := Lib.hid hB
    clear hB
    go_enter Tryz.func20, Tryz.ntmps20
    go_wp2_with fail
    refine (s_LedgerOk z l _ _ _ hl ((HR.out.below (by (first | ((repeat' first | (with_reducible (first | exact Below.refl _ _ | assumption | refine Below.setCell ?_ ?_ _ | refine Below.alloc ?_ ?_ _ | refine Below.drew ?_ | refine below_drewN ?_ _ | refine Below.trans ?_ (Below.mono (by assumption) ?_))) | omega | (simp; omega) | (simp; done)); done) | (repeat' first | exact Below.refl _ _ | assumption | refine Below.setCell ?_ (by first | omega | (simp; omega) | (simp; done)) _ | refine Below.alloc ?_ (by first | omega | (simp; omega) | (simp; done)) _ | refine Below.drew ?_ | refine below_drewN ?_ _ | refine Below.trans ?_ (Below.mono (by assumption) (by first | omega | (simp; omega) | (simp; done))))))).more (by first | omega | (simp; omega) | (simp; done)))).mono ?_
    rintro e w1 ⟨rfl, hb1⟩
    have z1 := hb1.size
    try simp at z1
    rw [HB.out]
    go_wp2_with fail
    go_ret
    exact ⟨by rw [HE.out]; rfl, by (first | ((repeat' first | (with_reducible (first | exact Below.refl _ _ | assumption | refine Below.setCell ?_ ?_ _ | refine Below.alloc ?_ ?_ _ | refine Below.drew ?_ | refine below_drewN ?_ _ | refine Below.trans ?_ (Below.mono (by assumption) ?_))) | omega | (simp; omega) | (simp; done)); done) | (repeat' first | exact Below.refl _ _ | assumption | refine Below.setCell ?_ (by first | omega | (simp; omega) | (simp; done)) _ | refine Below.alloc ?_ (by first | omega | (simp; omega) | (simp; done)) _ | refine Below.drew ?_ | refine below_drewN ?_ _ | refine Below.trans ?_ (Below.mono (by assumption) (by first | omega | (simp; omega) | (simp; done)))))⟩
  · have HE := Lib.hid (show ledgerL z l = ledTo z l by unfold ledgerL; rw [hB]; rfl)
    have HB := Lib.hid hB
    have hl3 : l.length ≤ 320 := by have := ledgerB_iff.1 hB; omega
    clear hB
    go_enter Tryz.func20, Tryz.ntmps20
    go_wp2_with fail
    refine (s_LedgerOk z l _ _ _ hl ((HR.out.below (by (first | ((repeat' first | (with_reducible (first | exact Below.refl _ _ | assumption | refine Below.setCell ?_ ?_ _ | refine Below.alloc ?_ ?_ _ | refine Below.drew ?_ | refine below_drewN ?_ _ | refine Below.trans ?_ (Below.mono (by assumption) ?_))) | omega | (simp; omega) | (simp; done)); done) | (repeat' first | exact Below.refl _ _ | assumption | refine Below.setCell ?_ (by first | omega | (simp; omega) | (simp; done)) _ | refine Below.alloc ?_ (by first | omega | (simp; omega) | (simp; done)) _ | refine Below.drew ?_ | refine below_drewN ?_ _ | refine Below.trans ?_ (Below.mono (by assumption) (by first | omega | (simp; omega) | (simp; done))))))).more (by first | omega | (simp; omega) | (simp; done)))).mono ?_
    rintro e w1 ⟨rfl, hb1⟩
    have z1 := hb1.size
    try simp at z1
    rw [HB.out]
    obtain ⟨eh, e0, e1, ef, ez⟩ := own2 (g := w.heap.size) hb1 (by first | omega | (simp; omega) | (simp; done)) (by (first | ((repeat' first | (with_reducible (first | assumption | (refine heap_at ?_; (first | rfl | (simp; done))) | refine heap_drew ?_ | refine heap_drewN ?_ | refine heap_past ?_ ?_ | refine heap_far ?_ ?_)) | (simp; done) | (simp; omega)); done) | (repeat' first | assumption | (refine heap_at ?_; (simp; done)) | refine heap_drew ?_ | refine heap_drewN ?_ | (refine heap_past ?_ ?_ <;> try (simp; done)) | (refine heap_far ?_ ?_ <;> try (simp; done)))))
    go_wp2_with fail
    refine (s_NumText _ _).mono ?_
    rintro e w2 ⟨rfl, hb2⟩
    have z2 := hb2.size
    (try simp at z2)
    obtain ⟨s0, hs0', hs0⟩ := str_of (numL z)
    rw [hs0']
    clear hs0'
    obtain ⟨fh, f0, f1, ff, fz⟩ := own2 (g := w.heap.size) hb2 (by first | omega | (simp; omega) | (simp; done)) (by (first | ((repeat' first | (with_reducible (first | assumption | (refine heap_at ?_; (first | rfl | (simp; done))) | refine heap_drew ?_ | refine heap_drewN ?_ | refine heap_past ?_ ?_ | refine heap_far ?_ ?_)) | (simp; done) | (simp; omega)); done) | (repeat' first | assumption | (refine heap_at ?_; (simp; done)) | refine heap_drew ?_ | refine heap_drewN ?_ | (refine heap_past ?_ ?_ <;> try (simp; done)) | (refine heap_far ?_ ?_ <;> try (simp; done)))))
    obtain ⟨t0, ht0, hadd0⟩ := str_add (str_lit (l := [108, 101, 100, 103, 101, 114, 32]) (s := ⟨#[108, 101, 100, 103, 101, 114, 32]⟩) rfl) hs0.out (by have := numL_len z; simp; omega)
    obtain ⟨t1, ht1, hadd1⟩ := str_add ht0.out (str_lit (l := [10]) rfl) (by have := numL_len z; simp; omega)
    have HS := Lib.hid (show Str (ledTo z (l.take 0)) t1 from by
      have h := ht1.out
      unfold Str at h ⊢
      rw [h]
      simp [ledTo, ledHead])
    have hbB : Below w.heap.size w w2 := by (first | ((repeat' first | (with_reducible (first | exact Below.refl _ _ | assumption | refine Below.setCell ?_ ?_ _ | refine Below.alloc ?_ ?_ _ | refine Below.drew ?_ | refine below_drewN ?_ _ | refine Below.trans ?_ (Below.mono (by assumption) ?_))) | omega | (simp; omega) | (simp; done)); done) | (repeat' first | exact Below.refl _ _ | assumption | refine Below.setCell ?_ (by first | omega | (simp; omega) | (simp; done)) _ | refine Below.alloc ?_ (by first | omega | (simp; omega) | (simp; done)) _ | refine Below.drew ?_ | refine below_drewN ?_ _ | refine Below.trans ?_ (Below.mono (by assumption) (by first | omega | (simp; omega) | (simp; done)))))
    clear hb1 hb2
    go_wp2_with fail
    clear eh e0 e1 ef ez fh f0 f1 ff fz
    go_loopw [3, 17] (fun v i wr => ∃ (k : Nat) (S : ByteArray), k ≤ l.length ∧ i = .int .i64 k ∧ v = .string S ∧ Hid (Str (ledTo z (l.take k)) S) ∧ Below w.heap.size w wr) (fun _ i _ => l.length - (intOf i).toNat)
    case atStart => exact ⟨0, _, Nat.zero_le _, rfl, rfl, HS, hbB⟩
    case round =>
      clear HS hbB
      obtain ⟨k, S, hk, rfl, rfl, hS, hbw⟩ := hrel
      have hbz := hbw.size
      by_cases hlt : k < l.length
      · obtain ⟨b, off, rfl, hbB, c0, c1, c2⟩ := Line.rd (HR.out.below hbw) hlt
        have HK := Lib.hid (ledTo_succ z l hlt)
        have hOl : (ledTo z (l.take k)).length ≤ 20000 := by
          have h1 := ledTo_len z (l.take k)
          have h2 : (l.take k).length ≤ 320 := by rw [List.length_take]; omega
          omega
        obtain ⟨O, hO⟩ : ∃ O, ledTo z (l.take k) = O := ⟨_, rfl⟩
        rw [hO] at HK hOl hS
        clear hO
        have h_n := numL_len l[k].Amt
        have h_a := accL_len l[k].Kind l[k].Ch
        obtain ⟨jh, j0, j1, j2, jf, jz⟩ := own3 (g := wr.heap.size) (Below.refl _ (wr.alloc (.cells #[.int .i64 l[k].Kind, .int .i64 l[k].Ch, .int .i64 l[k].Amt] 84))) (by simp) (heap_at rfl)
        go_wp2_with fail
        go_region_held3 (fun w' => w'.cell? ⟨wr.heap.size, 0, none⟩ = some (.int .i64 l[k].Kind) ∧ w'.cell? ⟨wr.heap.size, 1, none⟩ = some (.int .i64 l[k].Ch) ∧ w'.cell? ⟨wr.heap.size, 2, none⟩ = some (.int .i64 l[k].Amt))
          (first | exact ⟨j0, j1, j2⟩ | exact ⟨a0, a1, a2⟩ | exact ⟨b0, b1, b2⟩)
          (first
            | (go_at_call 53; refine (s_AccText _ _ _).mono ?_; rintro e wa ⟨rfl, hba⟩; have za := hba.size; (try simp at za); obtain ⟨sa, hsa', hsa⟩ := str_of (accL l[k].Kind l[k].Ch); rw [hsa']; clear hsa'; obtain ⟨ah, a0, a1, a2, af, az⟩ := own3 (g := wr.heap.size) hba (by first | omega | (simp; omega) | (simp; done)) (by (first | ((repeat' first | (with_reducible (first | assumption | (refine heap_at ?_; (first | rfl | (simp; done))) | refine heap_drew ?_ | refine heap_drewN ?_ | refine heap_past ?_ ?_ | refine heap_far ?_ ?_)) | (simp; done) | (simp; omega)); done) | (repeat' first | assumption | (refine heap_at ?_; (simp; done)) | refine heap_drew ?_ | refine heap_drewN ?_ | (refine heap_past ?_ ?_ <;> try (simp; done)) | (refine heap_far ?_ ?_ <;> try (simp; done))))); obtain ⟨p0, hp0, haddp0⟩ := str_add hS.out hsa.out (by first | omega | (simp; omega)); obtain ⟨p1, hp1, haddp1⟩ := str_add hp0.out (str_lit (l := [32]) rfl) (by first | omega | (simp; omega)))
            | (go_at_call 51; refine (s_NumText _ _).mono ?_; rintro e wb ⟨rfl, hbb⟩; have zb := hbb.size; (try simp at zb); obtain ⟨sb, hsb', hsb⟩ := str_of (numL l[k].Amt); rw [hsb']; clear hsb'; obtain ⟨bh, b0, b1, b2, bf, bz⟩ := own3 (g := wr.heap.size) hbb (by first | omega | (simp; omega) | (simp; done)) (by (first | ((repeat' first | (with_reducible (first | assumption | (refine heap_at ?_; (first | rfl | (simp; done))) | refine heap_drew ?_ | refine heap_drewN ?_ | refine heap_past ?_ ?_ | refine heap_far ?_ ?_)) | (simp; done) | (simp; omega)); done) | (repeat' first | assumption | (refine heap_at ?_; (simp; done)) | refine heap_drew ?_ | refine heap_drewN ?_ | (refine heap_past ?_ ?_ <;> try (simp; done)) | (refine heap_far ?_ ?_ <;> try (simp; done))))); obtain ⟨p2, hp2, haddp2⟩ := str_add hp1.out hsb.out (by first | omega | (simp; omega)); obtain ⟨p3, hp3, haddp3⟩ := str_add hp2.out (str_lit (l := [10]) rfl) (by first | omega | (simp; omega))))
        all_goals
          go_wp2_with fail
          go_roundw
          case rel => exact ⟨k + 1, _, by omega, by go_num, rfl, Lib.hid (by
            rw [HK.out]
            have h := hp3.out
            unfold Str at h ⊢
            rw [h]
            simp [rowL]), by (first | ((repeat' first | (with_reducible (first | exact Below.refl _ _ | assumption | refine Below.setCell ?_ ?_ _ | refine Below.alloc ?_ ?_ _ | refine Below.drew ?_ | refine below_drewN ?_ _ | refine Below.trans ?_ (Below.mono (by assumption) ?_))) | omega | (simp; omega) | (simp; done)); done) | (repeat' first | exact Below.refl _ _ | assumption | refine Below.setCell ?_ (by first | omega | (simp; omega) | (simp; done)) _ | refine Below.alloc ?_ (by first | omega | (simp; omega) | (simp; done)) _ | refine Below.drew ?_ | refine below_drewN ?_ _ | refine Below.trans ?_ (Below.mono (by assumption) (by first | omega | (simp; omega) | (simp; done)))))⟩
          case measure => simp [intOf]; omega
      · obtain rfl : k = l.length := by omega
        rw [List.take_length] at hS
        go_wp2_with fail
        go_ret
        refine ⟨?_, by (first | ((repeat' first | (with_reducible (first | exact Below.refl _ _ | assumption | refine Below.setCell ?_ ?_ _ | refine Below.alloc ?_ ?_ _ | refine Below.drew ?_ | refine below_drewN ?_ _ | refine Below.trans ?_ (Below.mono (by assumption) ?_))) | omega | (simp; omega) | (simp; done)); done) | (repeat' first | exact Below.refl _ _ | assumption | refine Below.setCell ?_ (by first | omega | (simp; omega) | (simp; done)) _ | refine Below.alloc ?_ (by first | omega | (simp; omega) | (simp; done)) _ | refine Below.drew ?_ | refine below_drewN ?_ _ | refine Below.trans ?_ (Below.mono (by assumption) (by first | omega | (simp; omega) | (simp; done)))))⟩
        show Ending.returned (.string S) = _
        rw [HE.out, hS.out]
set_option maxRecDepth 100000 in
set_option maxHeartbeats 2000000 in
theorem s_PostingText (z : Int) (l : List Line) (A : Option Addr) (cap : Nat) (w : World) (hl : l.length ≤ 1048576) (hr : Rd w w.heap.size 3 A (l.map Line.cells)) :
    Calls Tryz.prog 21 #[.agg #[.int .i64 z, .slice A l.length cap]] w fun e w' => e = .returned (.string ⟨(postingL z l).toArray⟩) ∧ Below w.heap.size w w' := by
  have HR := Lib.hid hr
  clear hr
  cases hB : postingB z l
  · have HE := Lib.hid (show postingL z l = [] by unfold postingL; rw [hB]; rfl)
    have HB := Lib.hid hB
    clear hB
    go_enter Tryz.func21, Tryz.ntmps21
    go_wp2_with fail
    refine (s_PostingOk z l _ _ _ hl ((HR.out.below (by (first | ((repeat' first | (with_reducible (first | exact Below.refl _ _ | assumption | refine Below.setCell ?_ ?_ _ | refine Below.alloc ?_ ?_ _ | refine Below.drew ?_ | refine below_drewN ?_ _ | refine Below.trans ?_ (Below.mono (by assumption) ?_))) | omega | (simp; omega) | (simp; done)); done) | (repeat' first | exact Below.refl _ _ | assumption | refine Below.setCell ?_ (by first | omega | (simp; omega) | (simp; done)) _ | refine Below.alloc ?_ (by first | omega | (simp; omega) | (simp; done)) _ | refine Below.drew ?_ | refine below_drewN ?_ _ | refine Below.trans ?_ (Below.mono (by assumption) (by first | omega | (simp; omega) | (simp; done))))))).more (by first | omega | (simp; omega) | (simp; done)))).mono ?_
    rintro e w1 ⟨rfl, hb1⟩
    have z1 := hb1.size
    try simp at z1
    rw [HB.out]
    go_wp2_with fail
    go_ret
    exact ⟨by rw [HE.out]; rfl, by (first | ((repeat' first | (with_reducible (first | exact Below.refl _ _ | assumption | refine Below.setCell ?_ ?_ _ | refine Below.alloc ?_ ?_ _ | refine Below.drew ?_ | refine below_drewN ?_ _ | refine Below.trans ?_ (Below.mono (by assumption) ?_))) | omega | (simp; omega) | (simp; done)); done) | (repeat' first | exact Below.refl _ _ | assumption | refine Below.setCell ?_ (by first | omega | (simp; omega) | (simp; done)) _ | refine Below.alloc ?_ (by first | omega | (simp; omega) | (simp; done)) _ | refine Below.drew ?_ | refine below_drewN ?_ _ | refine Below.trans ?_ (Below.mono (by assumption) (by first | omega | (simp; omega) | (simp; done)))))⟩
  · have HE := Lib.hid (show postingL z l = postTo z l by unfold postingL; rw [hB]; rfl)
    have HB := Lib.hid hB
    have hl3 : l.length ≤ 320 := by have := postingB_iff.1 hB; omega
    clear hB
    go_enter Tryz.func21, Tryz.ntmps21
    go_wp2_with fail
    refine (s_PostingOk z l _ _ _ hl ((HR.out.below (by (first | ((repeat' first | (with_reducible (first | exact Below.refl _ _ | assumption | refine Below.setCell ?_ ?_ _ | refine Below.alloc ?_ ?_ _ | refine Below.drew ?_ | refine below_drewN ?_ _ | refine Below.trans ?_ (Below.mono (by assumption) ?_))) | omega | (simp; omega) | (simp; done)); done) | (repeat' first | exact Below.refl _ _ | assumption | refine Below.setCell ?_ (by first | omega | (simp; omega) | (simp; done)) _ | refine Below.alloc ?_ (by first | omega | (simp; omega) | (simp; done)) _ | refine Below.drew ?_ | refine below_drewN ?_ _ | refine Below.trans ?_ (Below.mono (by assumption) (by first | omega | (simp; omega) | (simp; done))))))).more (by first | omega | (simp; omega) | (simp; done)))).mono ?_
    rintro e w1 ⟨rfl, hb1⟩
    have z1 := hb1.size
    try simp at z1
    rw [HB.out]
    obtain ⟨eh, e0, e1, ef, ez⟩ := own2 (g := w.heap.size) hb1 (by first | omega | (simp; omega) | (simp; done)) (by (first | ((repeat' first | (with_reducible (first | assumption | (refine heap_at ?_; (first | rfl | (simp; done))) | refine heap_drew ?_ | refine heap_drewN ?_ | refine heap_past ?_ ?_ | refine heap_far ?_ ?_)) | (simp; done) | (simp; omega)); done) | (repeat' first | assumption | (refine heap_at ?_; (simp; done)) | refine heap_drew ?_ | refine heap_drewN ?_ | (refine heap_past ?_ ?_ <;> try (simp; done)) | (refine heap_far ?_ ?_ <;> try (simp; done)))))
    go_wp2_with fail
    refine (s_NumText _ _).mono ?_
    rintro e w2 ⟨rfl, hb2⟩
    have z2 := hb2.size
    (try simp at z2)
    obtain ⟨s0, hs0', hs0⟩ := str_of (numL z)
    rw [hs0']
    clear hs0'
    obtain ⟨fh, f0, f1, ff, fz⟩ := own2 (g := w.heap.size) hb2 (by first | omega | (simp; omega) | (simp; done)) (by (first | ((repeat' first | (with_reducible (first | assumption | (refine heap_at ?_; (first | rfl | (simp; done))) | refine heap_drew ?_ | refine heap_drewN ?_ | refine heap_past ?_ ?_ | refine heap_far ?_ ?_)) | (simp; done) | (simp; omega)); done) | (repeat' first | assumption | (refine heap_at ?_; (simp; done)) | refine heap_drew ?_ | refine heap_drewN ?_ | (refine heap_past ?_ ?_ <;> try (simp; done)) | (refine heap_far ?_ ?_ <;> try (simp; done)))))
    obtain ⟨t0, ht0, hadd0⟩ := str_add (str_lit (l := [112, 111, 115, 116, 32]) (s := ⟨#[112, 111, 115, 116, 32]⟩) rfl) hs0.out (by have := numL_len z; simp; omega)
    have HS := Lib.hid (show Str (postTo z (l.take 0)) t0 from by
      have h := ht0.out
      unfold Str at h ⊢
      rw [h]
      simp [postTo, postHead])
    have hbB : Below w.heap.size w w2 := by (first | ((repeat' first | (with_reducible (first | exact Below.refl _ _ | assumption | refine Below.setCell ?_ ?_ _ | refine Below.alloc ?_ ?_ _ | refine Below.drew ?_ | refine below_drewN ?_ _ | refine Below.trans ?_ (Below.mono (by assumption) ?_))) | omega | (simp; omega) | (simp; done)); done) | (repeat' first | exact Below.refl _ _ | assumption | refine Below.setCell ?_ (by first | omega | (simp; omega) | (simp; done)) _ | refine Below.alloc ?_ (by first | omega | (simp; omega) | (simp; done)) _ | refine Below.drew ?_ | refine below_drewN ?_ _ | refine Below.trans ?_ (Below.mono (by assumption) (by first | omega | (simp; omega) | (simp; done)))))
    clear hb1 hb2
    go_wp2_with fail
    clear eh e0 e1 ef ez fh f0 f1 ff fz
    go_loopw [3, 16] (fun v i wr => ∃ (k : Nat) (S : ByteArray), k ≤ l.length ∧ i = .int .i64 k ∧ v = .string S ∧ Hid (Str (postTo z (l.take k)) S) ∧ Below w.heap.size w wr) (fun _ i _ => l.length - (intOf i).toNat)
    case atStart => exact ⟨0, _, Nat.zero_le _, rfl, rfl, HS, hbB⟩
    case round =>
      clear HS hbB
      obtain ⟨k, S, hk, rfl, rfl, hS, hbw⟩ := hrel
      have hbz := hbw.size
      by_cases hlt : k < l.length
      · obtain ⟨b, off, rfl, hbB, c0, c1, c2⟩ := Line.rd (HR.out.below hbw) hlt
        have HK := Lib.hid (postTo_succ z l hlt)
        have hOl : (postTo z (l.take k)).length ≤ 20000 := by
          have h1 := postTo_len z (l.take k)
          have h2 : (l.take k).length ≤ 320 := by rw [List.length_take]; omega
          omega
        obtain ⟨O, hO⟩ : ∃ O, postTo z (l.take k) = O := ⟨_, rfl⟩
        rw [hO] at HK hOl hS
        clear hO
        have h_n := numL_len l[k].Amt
        have h_a := accL_len l[k].Kind l[k].Ch
        obtain ⟨jh, j0, j1, j2, jf, jz⟩ := own3 (g := wr.heap.size) (Below.refl _ (wr.alloc (.cells #[.int .i64 l[k].Kind, .int .i64 l[k].Ch, .int .i64 l[k].Amt] 84))) (by simp) (heap_at rfl)
        obtain ⟨u0, hu0, haddu⟩ := str_add hS.out (str_lit (l := [32]) rfl) (by first | omega | (simp; omega))
        go_wp2_with fail
        go_region_held3 (fun w' => w'.cell? ⟨wr.heap.size, 0, none⟩ = some (.int .i64 l[k].Kind) ∧ w'.cell? ⟨wr.heap.size, 1, none⟩ = some (.int .i64 l[k].Ch) ∧ w'.cell? ⟨wr.heap.size, 2, none⟩ = some (.int .i64 l[k].Amt))
          (first | exact ⟨j0, j1, j2⟩ | exact ⟨a0, a1, a2⟩ | exact ⟨b0, b1, b2⟩)
          (first
            | (go_at_call 53; refine (s_AccText _ _ _).mono ?_; rintro e wa ⟨rfl, hba⟩; have za := hba.size; (try simp at za); obtain ⟨sa, hsa', hsa⟩ := str_of (accL l[k].Kind l[k].Ch); rw [hsa']; clear hsa'; obtain ⟨ah, a0, a1, a2, af, az⟩ := own3 (g := wr.heap.size) hba (by first | omega | (simp; omega) | (simp; done)) (by (first | ((repeat' first | (with_reducible (first | assumption | (refine heap_at ?_; (first | rfl | (simp; done))) | refine heap_drew ?_ | refine heap_drewN ?_ | refine heap_past ?_ ?_ | refine heap_far ?_ ?_)) | (simp; done) | (simp; omega)); done) | (repeat' first | assumption | (refine heap_at ?_; (simp; done)) | refine heap_drew ?_ | refine heap_drewN ?_ | (refine heap_past ?_ ?_ <;> try (simp; done)) | (refine heap_far ?_ ?_ <;> try (simp; done))))); obtain ⟨p0, hp0, haddp0⟩ := str_add hu0.out hsa.out (by first | omega | (simp; omega)); obtain ⟨p1, hp1, haddp1⟩ := str_add hp0.out (str_lit (l := [58]) rfl) (by first | omega | (simp; omega)))
            | (go_at_call 51; refine (s_NumText _ _).mono ?_; rintro e wb ⟨rfl, hbb⟩; have zb := hbb.size; (try simp at zb); obtain ⟨sb, hsb', hsb⟩ := str_of (numL l[k].Amt); rw [hsb']; clear hsb'; obtain ⟨bh, b0, b1, b2, bf, bz⟩ := own3 (g := wr.heap.size) hbb (by first | omega | (simp; omega) | (simp; done)) (by (first | ((repeat' first | (with_reducible (first | assumption | (refine heap_at ?_; (first | rfl | (simp; done))) | refine heap_drew ?_ | refine heap_drewN ?_ | refine heap_past ?_ ?_ | refine heap_far ?_ ?_)) | (simp; done) | (simp; omega)); done) | (repeat' first | assumption | (refine heap_at ?_; (simp; done)) | refine heap_drew ?_ | refine heap_drewN ?_ | (refine heap_past ?_ ?_ <;> try (simp; done)) | (refine heap_far ?_ ?_ <;> try (simp; done))))); obtain ⟨p2, hp2, haddp2⟩ := str_add hp1.out hsb.out (by first | omega | (simp; omega))))
        all_goals
          go_wp2_with fail
          go_roundw
          case rel => exact ⟨k + 1, _, by omega, by go_num, rfl, Lib.hid (by
            rw [HK.out]
            have h := hp2.out
            unfold Str at h ⊢
            rw [h]
            simp [itemL]), by (first | ((repeat' first | (with_reducible (first | exact Below.refl _ _ | assumption | refine Below.setCell ?_ ?_ _ | refine Below.alloc ?_ ?_ _ | refine Below.drew ?_ | refine below_drewN ?_ _ | refine Below.trans ?_ (Below.mono (by assumption) ?_))) | omega | (simp; omega) | (simp; done)); done) | (repeat' first | exact Below.refl _ _ | assumption | refine Below.setCell ?_ (by first | omega | (simp; omega) | (simp; done)) _ | refine Below.alloc ?_ (by first | omega | (simp; omega) | (simp; done)) _ | refine Below.drew ?_ | refine below_drewN ?_ _ | refine Below.trans ?_ (Below.mono (by assumption) (by first | omega | (simp; omega) | (simp; done)))))⟩
          case measure => simp [intOf]; omega
      · obtain rfl : k = l.length := by omega
        rw [List.take_length] at hS
        go_wp2_with fail
        go_ret
        refine ⟨?_, by (first | ((repeat' first | (with_reducible (first | exact Below.refl _ _ | assumption | refine Below.setCell ?_ ?_ _ | refine Below.alloc ?_ ?_ _ | refine Below.drew ?_ | refine below_drewN ?_ _ | refine Below.trans ?_ (Below.mono (by assumption) ?_))) | omega | (simp; omega) | (simp; done)); done) | (repeat' first | exact Below.refl _ _ | assumption | refine Below.setCell ?_ (by first | omega | (simp; omega) | (simp; done)) _ | refine Below.alloc ?_ (by first | omega | (simp; omega) | (simp; done)) _ | refine Below.drew ?_ | refine below_drewN ?_ _ | refine Below.trans ?_ (Below.mono (by assumption) (by first | omega | (simp; omega) | (simp; done)))))⟩
        show Ending.returned (.string S) = _
        rw [HE.out, hS.out]
set_option maxRecDepth 100000 in
set_option maxHeartbeats 2000000 in
theorem i_LedgerText (z : Int) (l : List Line) (A : Option Addr) (cap : Nat) (w : World) (hld : Ld w) (hl : l.length ≤ 1048576) (hr : Rd w w.heap.size 3 A (l.map Line.cells)) :
    Calls Tryz.prog 17 #[.agg #[.int .i64 z, .slice A l.length cap]] w fun e w' => e = .returned (.string ⟨(ledgerL z l).toArray⟩) ∧ Below w.heap.size w w' := by
  have HLD := Lib.hid hld
  clear hld
  have HR := Lib.hid hr
  clear hr
  cases hB : ledgerB z l
  · have HE := Lib.hid (show ledgerL z l = [] by unfold ledgerL; rw [hB]; rfl)
    have HB := Lib.hid hB
    clear hB
    go_enter Tryz.func17, Tryz.ntmps17
    go_wp2_with fail
    refine (i_LedgerOk z l _ _ _ hl ((HR.out.below (by (first | ((repeat' first | (with_reducible (first | exact Below.refl _ _ | assumption | refine Below.setCell ?_ ?_ _ | refine Below.alloc ?_ ?_ _ | refine Below.drew ?_ | refine below_drewN ?_ _ | refine Below.trans ?_ (Below.mono (by assumption) ?_))) | omega | (simp; omega) | (simp; done)); done) | (repeat' first | exact Below.refl _ _ | assumption | refine Below.setCell ?_ (by first | omega | (simp; omega) | (simp; done)) _ | refine Below.alloc ?_ (by first | omega | (simp; omega) | (simp; done)) _ | refine Below.drew ?_ | refine below_drewN ?_ _ | refine Below.trans ?_ (Below.mono (by assumption) (by first | omega | (simp; omega) | (simp; done))))))).more (by first | omega | (simp; omega) | (simp; done)))).mono ?_
    rintro e w1 ⟨rfl, hb1⟩
    have z1 := hb1.size
    try simp at z1
    rw [HB.out]
    go_wp2_with fail
    go_ret
    exact ⟨by rw [HE.out]; rfl, by (first | ((repeat' first | (with_reducible (first | exact Below.refl _ _ | assumption | refine Below.setCell ?_ ?_ _ | refine Below.alloc ?_ ?_ _ | refine Below.drew ?_ | refine below_drewN ?_ _ | refine Below.trans ?_ (Below.mono (by assumption) ?_))) | omega | (simp; omega) | (simp; done)); done) | (repeat' first | exact Below.refl _ _ | assumption | refine Below.setCell ?_ (by first | omega | (simp; omega) | (simp; done)) _ | refine Below.alloc ?_ (by first | omega | (simp; omega) | (simp; done)) _ | refine Below.drew ?_ | refine below_drewN ?_ _ | refine Below.trans ?_ (Below.mono (by assumption) (by first | omega | (simp; omega) | (simp; done)))))⟩
  · have HE := Lib.hid (show ledgerL z l = ledTo z l by unfold ledgerL; rw [hB]; rfl)
    have HB := Lib.hid hB
    have hl3 : l.length ≤ 320 := by have := ledgerB_iff.1 hB; omega
    clear hB
    go_enter Tryz.func17, Tryz.ntmps17
    go_wp2_with fail
    refine (i_LedgerOk z l _ _ _ hl ((HR.out.below (by (first | ((repeat' first | (with_reducible (first | exact Below.refl _ _ | assumption | refine Below.setCell ?_ ?_ _ | refine Below.alloc ?_ ?_ _ | refine Below.drew ?_ | refine below_drewN ?_ _ | refine Below.trans ?_ (Below.mono (by assumption) ?_))) | omega | (simp; omega) | (simp; done)); done) | (repeat' first | exact Below.refl _ _ | assumption | refine Below.setCell ?_ (by first | omega | (simp; omega) | (simp; done)) _ | refine Below.alloc ?_ (by first | omega | (simp; omega) | (simp; done)) _ | refine Below.drew ?_ | refine below_drewN ?_ _ | refine Below.trans ?_ (Below.mono (by assumption) (by first | omega | (simp; omega) | (simp; done))))))).more (by first | omega | (simp; omega) | (simp; done)))).mono ?_
    rintro e w1 ⟨rfl, hb1⟩
    have z1 := hb1.size
    try simp at z1
    rw [HB.out]
    obtain ⟨eh, e0, e1, ef, ez⟩ := own2 (g := w.heap.size) hb1 (by first | omega | (simp; omega) | (simp; done)) (by (first | ((repeat' first | (with_reducible (first | assumption | (refine heap_at ?_; (first | rfl | (simp; done))) | refine heap_drew ?_ | refine heap_drewN ?_ | refine heap_past ?_ ?_ | refine heap_far ?_ ?_)) | (simp; done) | (simp; omega)); done) | (repeat' first | assumption | (refine heap_at ?_; (simp; done)) | refine heap_drew ?_ | refine heap_drewN ?_ | (refine heap_past ?_ ?_ <;> try (simp; done)) | (refine heap_far ?_ ?_ <;> try (simp; done)))))
    go_wp2_with fail
    have hbA : Below w.heap.size w w1 := by (first | ((repeat' first | (with_reducible (first | exact Below.refl _ _ | assumption | refine Below.setCell ?_ ?_ _ | refine Below.alloc ?_ ?_ _ | refine Below.drew ?_ | refine below_drewN ?_ _ | refine Below.trans ?_ (Below.mono (by assumption) ?_))) | omega | (simp; omega) | (simp; done)); done) | (repeat' first | exact Below.refl _ _ | assumption | refine Below.setCell ?_ (by first | omega | (simp; omega) | (simp; done)) _ | refine Below.alloc ?_ (by first | omega | (simp; omega) | (simp; done)) _ | refine Below.drew ?_ | refine below_drewN ?_ _ | refine Below.trans ?_ (Below.mono (by assumption) (by first | omega | (simp; omega) | (simp; done)))))
    refine (i_withNumbers [108, 101, 100, 103, 101, 114] _ [z] _ _ _ (HLD.out.below (by (first | ((repeat' first | (with_reducible (first | exact Below.refl _ _ | assumption | refine Below.setCell ?_ ?_ _ | refine Below.alloc ?_ ?_ _ | refine Below.drew ?_ | refine below_drewN ?_ _ | refine Below.trans ?_ (Below.mono (by assumption) ?_))) | omega | (simp; omega) | (simp; done)); done) | (repeat' first | exact Below.refl _ _ | assumption | refine Below.setCell ?_ (by first | omega | (simp; omega) | (simp; done)) _ | refine Below.alloc ?_ (by first | omega | (simp; omega) | (simp; done)) _ | refine Below.drew ?_ | refine below_drewN ?_ _ | refine Below.trans ?_ (Below.mono (by assumption) (by first | omega | (simp; omega) | (simp; done))))))) rfl (by simp) (by simp) (rd_one (cs := [.int .i64 z]) (heap_at (by first | rfl | (simp; done))) rfl)).mono ?_
    rintro e w2 ⟨rfl, hb2⟩
    have z2 := hb2.size
    (try simp at z2)
    obtain ⟨s0, hs0', hs0⟩ := str_of (numsC [108, 101, 100, 103, 101, 114] [z])
    rw [hs0']
    clear hs0'
    obtain ⟨fh, f0, f1, ff, fz⟩ := own2 (g := w.heap.size) hb2 (by first | omega | (simp; omega) | (simp; done)) (by (first | ((repeat' first | (with_reducible (first | assumption | (refine heap_at ?_; (first | rfl | (simp; done))) | refine heap_drew ?_ | refine heap_drewN ?_ | refine heap_past ?_ ?_ | refine heap_far ?_ ?_)) | (simp; done) | (simp; omega)); done) | (repeat' first | assumption | (refine heap_at ?_; (simp; done)) | refine heap_drew ?_ | refine heap_drewN ?_ | (refine heap_past ?_ ?_ <;> try (simp; done)) | (refine heap_far ?_ ?_ <;> try (simp; done)))))
    obtain ⟨t1, ht1, hadd1⟩ := str_add hs0.out (str_lit (l := [10]) rfl) (by have := numsC_len [108, 101, 100, 103, 101, 114] [z]; simp at this ⊢; omega)
    have HS := Lib.hid (show Str (ledTo z (l.take 0)) t1 from by
      have h := ht1.out
      unfold Str at h ⊢
      rw [h]
      simp [ledTo, ledHead, numsC, wordsC])
    have hbB : Below w.heap.size w w2 := by (first | ((repeat' first | (with_reducible (first | exact Below.refl _ _ | assumption | refine Below.setCell ?_ ?_ _ | refine Below.alloc ?_ ?_ _ | refine Below.drew ?_ | refine below_drewN ?_ _ | refine Below.trans ?_ (Below.mono (by assumption) ?_))) | omega | (simp; omega) | (simp; done)); done) | (repeat' first | exact Below.refl _ _ | assumption | refine Below.setCell ?_ (by first | omega | (simp; omega) | (simp; done)) _ | refine Below.alloc ?_ (by first | omega | (simp; omega) | (simp; done)) _ | refine Below.drew ?_ | refine below_drewN ?_ _ | refine Below.trans ?_ (Below.mono (by assumption) (by first | omega | (simp; omega) | (simp; done)))))
    clear hb1 hb2
    go_wp2_with fail
    clear eh e0 e1 ef ez fh f0 f1 ff fz
    go_loopw [3, 17] (fun v i wr => ∃ (k : Nat) (S : ByteArray), k ≤ l.length ∧ i = .int .i64 k ∧ v = .string S ∧ Hid (Str (ledTo z (l.take k)) S) ∧ Below w.heap.size w wr) (fun _ i _ => l.length - (intOf i).toNat)
    case atStart => exact ⟨0, _, Nat.zero_le _, rfl, rfl, HS, hbB⟩
    case round =>
      clear HS hbB
      obtain ⟨k, S, hk, rfl, rfl, hS, hbw⟩ := hrel
      have hbz := hbw.size
      by_cases hlt : k < l.length
      · obtain ⟨b, off, rfl, hbB, c0, c1, c2⟩ := Line.rd (HR.out.below hbw) hlt
        have HK := Lib.hid (ledTo_succ z l hlt)
        have hOl : (ledTo z (l.take k)).length ≤ 20000 := by
          have h1 := ledTo_len z (l.take k)
          have h2 : (l.take k).length ≤ 320 := by rw [List.length_take]; omega
          omega
        obtain ⟨O, hO⟩ : ∃ O, ledTo z (l.take k) = O := ⟨_, rfl⟩
        rw [hO] at HK hOl hS
        clear hO
        have h_n := numL_len l[k].Amt
        have h_a := accL_len l[k].Kind l[k].Ch
        obtain ⟨jh, j0, j1, j2, jf, jz⟩ := own3 (g := wr.heap.size) (Below.refl _ (wr.alloc (.cells #[.int .i64 l[k].Kind, .int .i64 l[k].Ch, .int .i64 l[k].Amt] 84))) (by simp) (heap_at rfl)
        go_wp2_with fail
        go_region_held3 (fun w' => w'.cell? ⟨wr.heap.size, 0, none⟩ = some (.int .i64 l[k].Kind) ∧ w'.cell? ⟨wr.heap.size, 1, none⟩ = some (.int .i64 l[k].Ch) ∧ w'.cell? ⟨wr.heap.size, 2, none⟩ = some (.int .i64 l[k].Amt))
          (first | exact ⟨j0, j1, j2⟩ | exact ⟨a0, a1, a2⟩ | exact ⟨cell_past (by simp) j0, cell_past (by simp) j1, cell_past (by simp) j2⟩ | exact ⟨cell_past (by first | omega | (simp; omega)) a0, cell_past (by first | omega | (simp; omega)) a1, cell_past (by first | omega | (simp; omega)) a2⟩ | exact ⟨b0, b1, b2⟩)
          (first
            | (go_at_call 48; refine (i_AccText _ _ _ (HLD.out.below (by (first | ((repeat' first | (with_reducible (first | exact Below.refl _ _ | assumption | refine Below.setCell ?_ ?_ _ | refine Below.alloc ?_ ?_ _ | refine Below.drew ?_ | refine below_drewN ?_ _ | refine Below.trans ?_ (Below.mono (by assumption) ?_))) | omega | (simp; omega) | (simp; done)); done) | (repeat' first | exact Below.refl _ _ | assumption | refine Below.setCell ?_ (by first | omega | (simp; omega) | (simp; done)) _ | refine Below.alloc ?_ (by first | omega | (simp; omega) | (simp; done)) _ | refine Below.drew ?_ | refine below_drewN ?_ _ | refine Below.trans ?_ (Below.mono (by assumption) (by first | omega | (simp; omega) | (simp; done)))))))).mono ?_; rintro e wa ⟨rfl, hba⟩; have za := hba.size; (try simp at za); obtain ⟨sa, hsa', hsa⟩ := str_of (accL l[k].Kind l[k].Ch); rw [hsa']; clear hsa'; obtain ⟨ah, a0, a1, a2, af, az⟩ := own3 (g := wr.heap.size) hba (by first | omega | (simp; omega) | (simp; done)) (by (first | ((repeat' first | (with_reducible (first | assumption | (refine heap_at ?_; (first | rfl | (simp; done))) | refine heap_drew ?_ | refine heap_drewN ?_ | refine heap_past ?_ ?_ | refine heap_far ?_ ?_)) | (simp; done) | (simp; omega)); done) | (repeat' first | assumption | (refine heap_at ?_; (simp; done)) | refine heap_drew ?_ | refine heap_drewN ?_ | (refine heap_past ?_ ?_ <;> try (simp; done)) | (refine heap_far ?_ ?_ <;> try (simp; done))))); (try (have hbx : wa.heap[wr.heap.size + 1]? = some (.cells #[.int .i64 l[k].Amt] 3 (0, 0)) := heap_below hba (by simp) (heap_at (by simp)))))
            | (go_at_call 33; refine (i_withNumbers (accL l[k].Kind l[k].Ch) _ [l[k].Amt] _ _ _ (HLD.out.below (by (first | ((repeat' first | (with_reducible (first | exact Below.refl _ _ | assumption | refine Below.setCell ?_ ?_ _ | refine Below.alloc ?_ ?_ _ | refine Below.drew ?_ | refine below_drewN ?_ _ | refine Below.trans ?_ (Below.mono (by assumption) ?_))) | omega | (simp; omega) | (simp; done)); done) | (repeat' first | exact Below.refl _ _ | assumption | refine Below.setCell ?_ (by first | omega | (simp; omega) | (simp; done)) _ | refine Below.alloc ?_ (by first | omega | (simp; omega) | (simp; done)) _ | refine Below.drew ?_ | refine below_drewN ?_ _ | refine Below.trans ?_ (Below.mono (by assumption) (by first | omega | (simp; omega) | (simp; done))))))) hsa.out (by simp) (by omega) (rd_one (cs := [.int .i64 l[k].Amt]) (by (first | ((repeat' first | (with_reducible (first | assumption | (refine heap_at ?_; (first | rfl | (simp; done))) | refine heap_drew ?_ | refine heap_drewN ?_ | refine heap_past ?_ ?_ | refine heap_far ?_ ?_)) | (simp; done) | (simp; omega)); done) | (repeat' first | assumption | (refine heap_at ?_; (simp; done)) | refine heap_drew ?_ | refine heap_drewN ?_ | (refine heap_past ?_ ?_ <;> try (simp; done)) | (refine heap_far ?_ ?_ <;> try (simp; done))))) rfl)).mono ?_; rintro e wb ⟨rfl, hbb⟩; have zb := hbb.size; (try simp at zb); obtain ⟨sb, hsb', hsb⟩ := str_of (numsC (accL l[k].Kind l[k].Ch) [l[k].Amt]); rw [hsb']; clear hsb'; obtain ⟨bh, b0, b1, b2, bf, bz⟩ := own3 (g := wr.heap.size) hbb (by first | omega | (simp; omega) | (simp; done)) (by (first | ((repeat' first | (with_reducible (first | assumption | (refine heap_at ?_; (first | rfl | (simp; done))) | refine heap_drew ?_ | refine heap_drewN ?_ | refine heap_past ?_ ?_ | refine heap_far ?_ ?_)) | (simp; done) | (simp; omega)); done) | (repeat' first | assumption | (refine heap_at ?_; (simp; done)) | refine heap_drew ?_ | refine heap_drewN ?_ | (refine heap_past ?_ ?_ <;> try (simp; done)) | (refine heap_far ?_ ?_ <;> try (simp; done))))); have h_w := numsC_len (accL l[k].Kind l[k].Ch) [l[k].Amt]; simp at h_w; obtain ⟨p0, hp0, haddp0⟩ := str_add hsb.out (str_lit (l := [10]) rfl) (by first | omega | (simp; omega)); obtain ⟨p1, hp1, haddp1⟩ := str_add hS.out hp0.out (by first | omega | (simp; omega))))
        all_goals
          go_wp2_with fail
          go_roundw
          case rel => exact ⟨k + 1, _, by omega, by go_num, rfl, Lib.hid (by
            rw [HK.out]
            have h := hp1.out
            unfold Str at h ⊢
            rw [h]
            simp [rowL, numsC, wordsC]), by (first | ((repeat' first | (with_reducible (first | exact Below.refl _ _ | assumption | refine Below.setCell ?_ ?_ _ | refine Below.alloc ?_ ?_ _ | refine Below.drew ?_ | refine below_drewN ?_ _ | refine Below.trans ?_ (Below.mono (by assumption) ?_))) | omega | (simp; omega) | (simp; done)); done) | (repeat' first | exact Below.refl _ _ | assumption | refine Below.setCell ?_ (by first | omega | (simp; omega) | (simp; done)) _ | refine Below.alloc ?_ (by first | omega | (simp; omega) | (simp; done)) _ | refine Below.drew ?_ | refine below_drewN ?_ _ | refine Below.trans ?_ (Below.mono (by assumption) (by first | omega | (simp; omega) | (simp; done)))))⟩
          case measure => simp [intOf]; omega
      · obtain rfl : k = l.length := by omega
        rw [List.take_length] at hS
        go_wp2_with fail
        go_ret
        refine ⟨?_, by (first | ((repeat' first | (with_reducible (first | exact Below.refl _ _ | assumption | refine Below.setCell ?_ ?_ _ | refine Below.alloc ?_ ?_ _ | refine Below.drew ?_ | refine below_drewN ?_ _ | refine Below.trans ?_ (Below.mono (by assumption) ?_))) | omega | (simp; omega) | (simp; done)); done) | (repeat' first | exact Below.refl _ _ | assumption | refine Below.setCell ?_ (by first | omega | (simp; omega) | (simp; done)) _ | refine Below.alloc ?_ (by first | omega | (simp; omega) | (simp; done)) _ | refine Below.drew ?_ | refine below_drewN ?_ _ | refine Below.trans ?_ (Below.mono (by assumption) (by first | omega | (simp; omega) | (simp; done)))))⟩
        show Ending.returned (.string S) = _
        rw [HE.out, hS.out]
set_option maxRecDepth 100000 in
set_option maxHeartbeats 2000000 in
theorem i_PostingText (z : Int) (l : List Line) (A : Option Addr) (cap : Nat) (w : World) (hld : Ld w) (hl : l.length ≤ 1048576) (hr : Rd w w.heap.size 3 A (l.map Line.cells)) :
    Calls Tryz.prog 18 #[.agg #[.int .i64 z, .slice A l.length cap]] w fun e w' => e = .returned (.string ⟨(postingL z l).toArray⟩) ∧ Below w.heap.size w w' := by
  have HLD := Lib.hid hld
  clear hld
  have HR := Lib.hid hr
  clear hr
  cases hB : postingB z l
  · have HE := Lib.hid (show postingL z l = [] by unfold postingL; rw [hB]; rfl)
    have HB := Lib.hid hB
    clear hB
    go_enter Tryz.func18, Tryz.ntmps18
    go_wp2_with fail
    refine (i_PostingOk z l _ _ _ hl ((HR.out.below (by (first | ((repeat' first | (with_reducible (first | exact Below.refl _ _ | assumption | refine Below.setCell ?_ ?_ _ | refine Below.alloc ?_ ?_ _ | refine Below.drew ?_ | refine below_drewN ?_ _ | refine Below.trans ?_ (Below.mono (by assumption) ?_))) | omega | (simp; omega) | (simp; done)); done) | (repeat' first | exact Below.refl _ _ | assumption | refine Below.setCell ?_ (by first | omega | (simp; omega) | (simp; done)) _ | refine Below.alloc ?_ (by first | omega | (simp; omega) | (simp; done)) _ | refine Below.drew ?_ | refine below_drewN ?_ _ | refine Below.trans ?_ (Below.mono (by assumption) (by first | omega | (simp; omega) | (simp; done))))))).more (by first | omega | (simp; omega) | (simp; done)))).mono ?_
    rintro e w1 ⟨rfl, hb1⟩
    have z1 := hb1.size
    try simp at z1
    rw [HB.out]
    go_wp2_with fail
    go_ret
    exact ⟨by rw [HE.out]; rfl, by (first | ((repeat' first | (with_reducible (first | exact Below.refl _ _ | assumption | refine Below.setCell ?_ ?_ _ | refine Below.alloc ?_ ?_ _ | refine Below.drew ?_ | refine below_drewN ?_ _ | refine Below.trans ?_ (Below.mono (by assumption) ?_))) | omega | (simp; omega) | (simp; done)); done) | (repeat' first | exact Below.refl _ _ | assumption | refine Below.setCell ?_ (by first | omega | (simp; omega) | (simp; done)) _ | refine Below.alloc ?_ (by first | omega | (simp; omega) | (simp; done)) _ | refine Below.drew ?_ | refine below_drewN ?_ _ | refine Below.trans ?_ (Below.mono (by assumption) (by first | omega | (simp; omega) | (simp; done)))))⟩
  · have HE := Lib.hid (show postingL z l = postTo z l by unfold postingL; rw [hB]; rfl)
    have HB := Lib.hid hB
    have hl3 : l.length ≤ 320 := by have := postingB_iff.1 hB; omega
    clear hB
    go_enter Tryz.func18, Tryz.ntmps18
    go_wp2_with fail
    refine (i_PostingOk z l _ _ _ hl ((HR.out.below (by (first | ((repeat' first | (with_reducible (first | exact Below.refl _ _ | assumption | refine Below.setCell ?_ ?_ _ | refine Below.alloc ?_ ?_ _ | refine Below.drew ?_ | refine below_drewN ?_ _ | refine Below.trans ?_ (Below.mono (by assumption) ?_))) | omega | (simp; omega) | (simp; done)); done) | (repeat' first | exact Below.refl _ _ | assumption | refine Below.setCell ?_ (by first | omega | (simp; omega) | (simp; done)) _ | refine Below.alloc ?_ (by first | omega | (simp; omega) | (simp; done)) _ | refine Below.drew ?_ | refine below_drewN ?_ _ | refine Below.trans ?_ (Below.mono (by assumption) (by first | omega | (simp; omega) | (simp; done))))))).more (by first | omega | (simp; omega) | (simp; done)))).mono ?_
    rintro e w1 ⟨rfl, hb1⟩
    have z1 := hb1.size
    try simp at z1
    rw [HB.out]
    obtain ⟨eh, e0, e1, ef, ez⟩ := own2 (g := w.heap.size) hb1 (by first | omega | (simp; omega) | (simp; done)) (by (first | ((repeat' first | (with_reducible (first | assumption | (refine heap_at ?_; (first | rfl | (simp; done))) | refine heap_drew ?_ | refine heap_drewN ?_ | refine heap_past ?_ ?_ | refine heap_far ?_ ?_)) | (simp; done) | (simp; omega)); done) | (repeat' first | assumption | (refine heap_at ?_; (simp; done)) | refine heap_drew ?_ | refine heap_drewN ?_ | (refine heap_past ?_ ?_ <;> try (simp; done)) | (refine heap_far ?_ ?_ <;> try (simp; done)))))
    go_wp2_with fail
    have hbA : Below w.heap.size w w1 := by (first | ((repeat' first | (with_reducible (first | exact Below.refl _ _ | assumption | refine Below.setCell ?_ ?_ _ | refine Below.alloc ?_ ?_ _ | refine Below.drew ?_ | refine below_drewN ?_ _ | refine Below.trans ?_ (Below.mono (by assumption) ?_))) | omega | (simp; omega) | (simp; done)); done) | (repeat' first | exact Below.refl _ _ | assumption | refine Below.setCell ?_ (by first | omega | (simp; omega) | (simp; done)) _ | refine Below.alloc ?_ (by first | omega | (simp; omega) | (simp; done)) _ | refine Below.drew ?_ | refine below_drewN ?_ _ | refine Below.trans ?_ (Below.mono (by assumption) (by first | omega | (simp; omega) | (simp; done)))))
    refine (i_withNumbers [112, 111, 115, 116] _ [z] _ _ _ (HLD.out.below (by (first | ((repeat' first | (with_reducible (first | exact Below.refl _ _ | assumption | refine Below.setCell ?_ ?_ _ | refine Below.alloc ?_ ?_ _ | refine Below.drew ?_ | refine below_drewN ?_ _ | refine Below.trans ?_ (Below.mono (by assumption) ?_))) | omega | (simp; omega) | (simp; done)); done) | (repeat' first | exact Below.refl _ _ | assumption | refine Below.setCell ?_ (by first | omega | (simp; omega) | (simp; done)) _ | refine Below.alloc ?_ (by first | omega | (simp; omega) | (simp; done)) _ | refine Below.drew ?_ | refine below_drewN ?_ _ | refine Below.trans ?_ (Below.mono (by assumption) (by first | omega | (simp; omega) | (simp; done))))))) rfl (by simp) (by simp) (rd_one (cs := [.int .i64 z]) (heap_at (by first | rfl | (simp; done))) rfl)).mono ?_
    rintro e w2 ⟨rfl, hb2⟩
    have z2 := hb2.size
    (try simp at z2)
    obtain ⟨s0, hs0', hs0⟩ := str_of (numsC [112, 111, 115, 116] [z])
    rw [hs0']
    clear hs0'
    obtain ⟨fh, f0, f1, ff, fz⟩ := own2 (g := w.heap.size) hb2 (by first | omega | (simp; omega) | (simp; done)) (by (first | ((repeat' first | (with_reducible (first | assumption | (refine heap_at ?_; (first | rfl | (simp; done))) | refine heap_drew ?_ | refine heap_drewN ?_ | refine heap_past ?_ ?_ | refine heap_far ?_ ?_)) | (simp; done) | (simp; omega)); done) | (repeat' first | assumption | (refine heap_at ?_; (simp; done)) | refine heap_drew ?_ | refine heap_drewN ?_ | (refine heap_past ?_ ?_ <;> try (simp; done)) | (refine heap_far ?_ ?_ <;> try (simp; done)))))
    have HS := Lib.hid (show Str (postTo z (l.take 0)) s0 from by
      have h := hs0.out
      unfold Str at h ⊢
      rw [h]
      simp [postTo, postHead, numsC, wordsC])
    have hbB : Below w.heap.size w w2 := by (first | ((repeat' first | (with_reducible (first | exact Below.refl _ _ | assumption | refine Below.setCell ?_ ?_ _ | refine Below.alloc ?_ ?_ _ | refine Below.drew ?_ | refine below_drewN ?_ _ | refine Below.trans ?_ (Below.mono (by assumption) ?_))) | omega | (simp; omega) | (simp; done)); done) | (repeat' first | exact Below.refl _ _ | assumption | refine Below.setCell ?_ (by first | omega | (simp; omega) | (simp; done)) _ | refine Below.alloc ?_ (by first | omega | (simp; omega) | (simp; done)) _ | refine Below.drew ?_ | refine below_drewN ?_ _ | refine Below.trans ?_ (Below.mono (by assumption) (by first | omega | (simp; omega) | (simp; done)))))
    clear hb1 hb2
    go_wp2_with fail
    clear eh e0 e1 ef ez fh f0 f1 ff fz
    go_loopw [3, 16] (fun v i wr => ∃ (k : Nat) (S : ByteArray), k ≤ l.length ∧ i = .int .i64 k ∧ v = .string S ∧ Hid (Str (postTo z (l.take k)) S) ∧ Below w.heap.size w wr) (fun _ i _ => l.length - (intOf i).toNat)
    case atStart => exact ⟨0, _, Nat.zero_le _, rfl, rfl, HS, hbB⟩
    case round =>
      clear HS hbB
      obtain ⟨k, S, hk, rfl, rfl, hS, hbw⟩ := hrel
      have hbz := hbw.size
      by_cases hlt : k < l.length
      · obtain ⟨b, off, rfl, hbB, c0, c1, c2⟩ := Line.rd (HR.out.below hbw) hlt
        have HK := Lib.hid (postTo_succ z l hlt)
        have hOl : (postTo z (l.take k)).length ≤ 20000 := by
          have h1 := postTo_len z (l.take k)
          have h2 : (l.take k).length ≤ 320 := by rw [List.length_take]; omega
          omega
        obtain ⟨O, hO⟩ : ∃ O, postTo z (l.take k) = O := ⟨_, rfl⟩
        rw [hO] at HK hOl hS
        clear hO
        have h_n := numL_len l[k].Amt
        have h_a := accL_len l[k].Kind l[k].Ch
        obtain ⟨jh, j0, j1, j2, jf, jz⟩ := own3 (g := wr.heap.size) (Below.refl _ (wr.alloc (.cells #[.int .i64 l[k].Kind, .int .i64 l[k].Ch, .int .i64 l[k].Amt] 84))) (by simp) (heap_at rfl)
        go_wp2_with fail
        go_region_held3 (fun w' => w'.cell? ⟨wr.heap.size, 0, none⟩ = some (.int .i64 l[k].Kind) ∧ w'.cell? ⟨wr.heap.size, 1, none⟩ = some (.int .i64 l[k].Ch) ∧ w'.cell? ⟨wr.heap.size, 2, none⟩ = some (.int .i64 l[k].Amt))
          (first | exact ⟨j0, j1, j2⟩ | exact ⟨a0, a1, a2⟩ | exact ⟨b0, b1, b2⟩)
          (first
            | (go_at_call 48; refine (i_AccText _ _ _ (HLD.out.below (by (first | ((repeat' first | (with_reducible (first | exact Below.refl _ _ | assumption | refine Below.setCell ?_ ?_ _ | refine Below.alloc ?_ ?_ _ | refine Below.drew ?_ | refine below_drewN ?_ _ | refine Below.trans ?_ (Below.mono (by assumption) ?_))) | omega | (simp; omega) | (simp; done)); done) | (repeat' first | exact Below.refl _ _ | assumption | refine Below.setCell ?_ (by first | omega | (simp; omega) | (simp; done)) _ | refine Below.alloc ?_ (by first | omega | (simp; omega) | (simp; done)) _ | refine Below.drew ?_ | refine below_drewN ?_ _ | refine Below.trans ?_ (Below.mono (by assumption) (by first | omega | (simp; omega) | (simp; done)))))))).mono ?_; rintro e wa ⟨rfl, hba⟩; have za := hba.size; (try simp at za); obtain ⟨sa, hsa', hsa⟩ := str_of (accL l[k].Kind l[k].Ch); rw [hsa']; clear hsa'; obtain ⟨ah, a0, a1, a2, af, az⟩ := own3 (g := wr.heap.size) hba (by first | omega | (simp; omega) | (simp; done)) (by (first | ((repeat' first | (with_reducible (first | assumption | (refine heap_at ?_; (first | rfl | (simp; done))) | refine heap_drew ?_ | refine heap_drewN ?_ | refine heap_past ?_ ?_ | refine heap_far ?_ ?_)) | (simp; done) | (simp; omega)); done) | (repeat' first | assumption | (refine heap_at ?_; (simp; done)) | refine heap_drew ?_ | refine heap_drewN ?_ | (refine heap_past ?_ ?_ <;> try (simp; done)) | (refine heap_far ?_ ?_ <;> try (simp; done))))); obtain ⟨p0, hp0, haddp0⟩ := str_add (str_lit (l := [32]) rfl) hsa.out (by first | omega | (simp; omega)); obtain ⟨p1, hp1, haddp1⟩ := str_add hp0.out (str_lit (l := [58]) rfl) (by first | omega | (simp; omega)))
            | (go_at_call 34; refine (i_NumText _ _ (HLD.out.below (by (first | ((repeat' first | (with_reducible (first | exact Below.refl _ _ | assumption | refine Below.setCell ?_ ?_ _ | refine Below.alloc ?_ ?_ _ | refine Below.drew ?_ | refine below_drewN ?_ _ | refine Below.trans ?_ (Below.mono (by assumption) ?_))) | omega | (simp; omega) | (simp; done)); done) | (repeat' first | exact Below.refl _ _ | assumption | refine Below.setCell ?_ (by first | omega | (simp; omega) | (simp; done)) _ | refine Below.alloc ?_ (by first | omega | (simp; omega) | (simp; done)) _ | refine Below.drew ?_ | refine below_drewN ?_ _ | refine Below.trans ?_ (Below.mono (by assumption) (by first | omega | (simp; omega) | (simp; done)))))))).mono ?_; rintro e wb ⟨rfl, hbb⟩; have zb := hbb.size; (try simp at zb); obtain ⟨sb, hsb', hsb⟩ := str_of (numL l[k].Amt); rw [hsb']; clear hsb'; obtain ⟨bh, b0, b1, b2, bf, bz⟩ := own3 (g := wr.heap.size) hbb (by first | omega | (simp; omega) | (simp; done)) (by (first | ((repeat' first | (with_reducible (first | assumption | (refine heap_at ?_; (first | rfl | (simp; done))) | refine heap_drew ?_ | refine heap_drewN ?_ | refine heap_past ?_ ?_ | refine heap_far ?_ ?_)) | (simp; done) | (simp; omega)); done) | (repeat' first | assumption | (refine heap_at ?_; (simp; done)) | refine heap_drew ?_ | refine heap_drewN ?_ | (refine heap_past ?_ ?_ <;> try (simp; done)) | (refine heap_far ?_ ?_ <;> try (simp; done))))); obtain ⟨p2, hp2, haddp2⟩ := str_add hp1.out hsb.out (by first | omega | (simp; omega)); obtain ⟨p3, hp3, haddp3⟩ := str_add hS.out hp2.out (by first | omega | (simp; omega))))
        all_goals
          go_wp2_with fail
          go_roundw
          case rel => exact ⟨k + 1, _, by omega, by go_num, rfl, Lib.hid (by
            rw [HK.out]
            have h := hp3.out
            unfold Str at h ⊢
            rw [h]
            simp [itemL]), by (first | ((repeat' first | (with_reducible (first | exact Below.refl _ _ | assumption | refine Below.setCell ?_ ?_ _ | refine Below.alloc ?_ ?_ _ | refine Below.drew ?_ | refine below_drewN ?_ _ | refine Below.trans ?_ (Below.mono (by assumption) ?_))) | omega | (simp; omega) | (simp; done)); done) | (repeat' first | exact Below.refl _ _ | assumption | refine Below.setCell ?_ (by first | omega | (simp; omega) | (simp; done)) _ | refine Below.alloc ?_ (by first | omega | (simp; omega) | (simp; done)) _ | refine Below.drew ?_ | refine below_drewN ?_ _ | refine Below.trans ?_ (Below.mono (by assumption) (by first | omega | (simp; omega) | (simp; done)))))⟩
          case measure => simp [intOf]; omega
      · obtain rfl : k = l.length := by omega
        rw [List.take_length] at hS
        go_wp2_with fail
        go_ret
        refine ⟨?_, by (first | ((repeat' first | (with_reducible (first | exact Below.refl _ _ | assumption | refine Below.setCell ?_ ?_ _ | refine Below.alloc ?_ ?_ _ | refine Below.drew ?_ | refine below_drewN ?_ _ | refine Below.trans ?_ (Below.mono (by assumption) ?_))) | omega | (simp; omega) | (simp; done)); done) | (repeat' first | exact Below.refl _ _ | assumption | refine Below.setCell ?_ (by first | omega | (simp; omega) | (simp; done)) _ | refine Below.alloc ?_ (by first | omega | (simp; omega) | (simp; done)) _ | refine Below.drew ?_ | refine below_drewN ?_ _ | refine Below.trans ?_ (Below.mono (by assumption) (by first | omega | (simp; omega) | (simp; done)))))⟩
        show Ending.returned (.string S) = _
        rw [HE.out, hS.out]
end Go.Proofs.YtgpledgjpjifcaaGreatDoor

namespace Go.Proofs.YtgpledgjpjifcaaGreatDoor
open Go.RowKit Go.Deep

theorem info_line : (Tryz.prog.info? 84).map (fun i => (i.zero, i.size, i.bytes)) = some (some (.agg #[.int .i64 0, .int .i64 0, .int .i64 0]), 3, 24) := by kernel_rfl
/-- a ledger or a posting that is read -/
def RdL (B : Int → List Line → Bool) (F : Int → List Line → List UInt8) (s : ByteArray) (w : World) (e : Ending) (w' : World) : Prop :=
  ∃ (z : Int) (L : List Line) (A : Option Addr) (cap : Nat) (ok : Bool), e = .returned (.tuple #[.agg #[.int .i64 z, .slice A L.length cap], .bool ok]) ∧ Ow w' w.heap.size 84 3 (.slice A L.length cap) (L.map Line.cells) ∧ LedIs B F s.data.toList z L ok ∧ Below w.heap.size w w'
theorem heap_setP {w : World} {g : Nat} {t : TypeId} {a b : Value} (h : w.heap[g]? = some (.cells #[a, b] t (0, 0))) (u : Value) :
    (w.setCell ⟨g, 0, none⟩ u).heap[g]? = some (.cells #[u, b] t (0, 0)) ∧ (w.setCell ⟨g, 1, none⟩ u).heap[g]? = some (.cells #[a, u] t (0, 0)) :=
  ⟨heap_set h, heap_set h⟩
theorem Ow.apart {w : World} {B size X i : Nat} {e : TypeId} {v : Value} {rows : List (List Value)} (h : Ow w B e size v rows) (hne : some X ≠ v.ownBlock) (u : Value) : Ow (w.setCell ⟨X, i, none⟩ u) B e size v rows :=
  h.grown (grown_set (World.grownBy.refl w (some X)) i u) (Or.inr hne.symm)
theorem Ow.apart2 {w : World} {B size X : Nat} {e : TypeId} {v : Value} {rows : List (List Value)} (h : Ow w B e size v rows) (hne : some X ≠ v.ownBlock) (a b : Value) : Ow ((w.setCell ⟨X, 0, none⟩ a).setCell ⟨X, 1, none⟩ b) B e size v rows :=
  (h.apart hne a).apart hne b
theorem rd_tail {α : Type} {l : List α} {k : Nat} (h : k < l.length) : l[k]? = some l[k] := List.getElem?_eq_getElem h
set_option maxRecDepth 100000 in
set_option maxHeartbeats 4000000 in
theorem i_TextLedger (s : ByteArray) (w : World) (hld : Le w) (hs : s.size ≤ 1048576) : Calls Tryz.prog 23 #[.string s] w (RdL ledgerB ledgerL s w) := by
  have HLD := Lib.hid hld
  have hz : s.data.toList.length = s.size := Array.length_toList
  have hln := linesL_len s.data.toList
  have HSub := Lib.hid (linesL_sub s.data.toList)
  have HS0 := Lib.hid (show ∀ (m : Nat) (x : List UInt8) (y : Line) (ok : Bool), (linesL s.data.toList)[m + 1]? = some x → LineIs 32 x y ok → ∀ z' l', ledgerB z' l' = true → ledgerL z' l' = s.data.toList → ∃ hm : m < l'.length, y = l'[m] ∧ ok = true from fun _ _ _ _ h1 h2 => led_read h1 h2)
  have HCnt := Lib.hid (led_count (s := s.data.toList))
  have HHead := Lib.hid (fun x (h : (linesL s.data.toList)[0]? = some x) => led_line0 h)
  obtain ⟨ti0, hi, hz0, hz1, hz2⟩ := info_parts info_line
  have HI := Lib.hid hi
  have HZ0 := Lib.hid hz0
  have HZ1 := Lib.hid hz1
  have HZ2 := Lib.hid hz2
  have HC := Lib.hid (fun W (h : Ld W) => i_linesOf s W h hs)
  unfold LinesP at HC
  obtain ⟨LS, hLS⟩ : ∃ LS, linesL s.data.toList = LS := ⟨_, rfl⟩
  rw [hLS] at HSub HS0 HCnt HHead HC hln
  obtain ⟨N, hN⟩ : ∃ N, LS.length = N := ⟨_, rfl⟩
  rw [hN] at HCnt hln HC
  have hN1 : N ≤ 1048577 := by omega
  have HNL := Lib.hid hN
  have HSz := Lib.hid (show ∀ x ∈ LS, x.length ≤ 1048576 from fun x hx => by have := HSub.out x hx; omega)
  clear hi hz0 hz1 hz2 hld hz hln hLS hN HSub
  go_enter Tryz.func23, Tryz.ntmps23
  go_wp2_with fail
  refine (HC.out _ ((HLD.out.below (by (first | ((repeat' first | (with_reducible (first | exact Below.refl _ _ | assumption | refine Below.setCell ?_ ?_ _ | refine Below.alloc ?_ ?_ _ | refine Below.drew ?_ | refine below_drewN ?_ _ | refine Below.trans ?_ (Below.mono (by assumption) ?_))) | omega | (simp; omega) | (simp; done)); done) | (repeat' first | exact Below.refl _ _ | assumption | refine Below.setCell ?_ (by first | omega | (simp; omega) | (simp; done)) _ | refine Below.alloc ?_ (by first | omega | (simp; omega) | (simp; done)) _ | refine Below.drew ?_ | refine below_drewN ?_ _ | refine Below.trans ?_ (Below.mono (by assumption) (by first | omega | (simp; omega) | (simp; done))))))).toLd)).mono ?_
  rintro e w1 ⟨cap1, cs, rfl, hP1, hcs, hcap1, hb1⟩
  have z1 := hb1.size
  (try simp at z1)
  obtain ⟨PB, hPB⟩ : ∃ PB, PB = w.heap.size + 2 := ⟨_, rfl⟩
  have hR1 := heap_below (n := w.heap.size) hb1 (by simp; omega) (heap_past (by simp) (heap_at rfl))
  have hX1 := heap_below (n := w.heap.size + 1) hb1 (by simp) (heap_at (by simp))
  obtain ⟨X, hX⟩ : ∃ X, X = w.heap.size + 1 := ⟨_, rfl⟩
  have hXR : w.heap.size < X := by omega
  have hXP : X ≠ PB := by omega
  have hRP : w.heap.size ≠ PB := by omega
  rw [← hX] at hX1 ⊢
  have e2 : ((w.alloc (.cells #[.int .i64 0, .slice none 0 0] 42)).alloc (.cells #[.int .i64 0, .slice none 0 0] 42)).heap.size = PB := by rw [hPB]; simp
  rw [e2] at hP1 ⊢
  have hbA : Below w.heap.size w w1 := by (first | ((repeat' first | (with_reducible (first | exact Below.refl _ _ | assumption | refine Below.setCell ?_ ?_ _ | refine Below.alloc ?_ ?_ _ | refine Below.drew ?_ | refine below_drewN ?_ _ | refine Below.trans ?_ (Below.mono (by assumption) ?_))) | omega | (simp; omega) | (simp; done)); done) | (repeat' first | exact Below.refl _ _ | assumption | refine Below.setCell ?_ (by first | omega | (simp; omega) | (simp; done)) _ | refine Below.alloc ?_ (by first | omega | (simp; omega) | (simp; done)) _ | refine Below.drew ?_ | refine below_drewN ?_ _ | refine Below.trans ?_ (Below.mono (by assumption) (by first | omega | (simp; omega) | (simp; done)))))
  have hPl : PB < w1.heap.size := (Array.getElem?_eq_some_iff.1 hP1).1
  have hcap0 : N ≤ cap1 := hcap1
  have HR1 := Lib.hid hR1
  have HX1 := Lib.hid hX1
  have HP1 := Lib.hid hP1
  have HCS := Lib.hid hcs
  clear hb1 hR1 hX1 hP1 hcs hPB hX e2 HC hcap1
  go_wp2_with fail
  go_loopw [13] (fun i wr => ∃ (k : Nat) (z : Int) (L : List Line) (Bk : Option Addr) (cp : Nat), k ≤ N ∧ i = .int .i64 k ∧ Hid (RInv ledgerB ledgerL s.data.toList (decide (1 ≤ k)) (k - 1) z L) ∧ L.length ≤ 320 ∧ Ow wr (w.heap.size + 1) 84 3 (.slice Bk L.length cp) (L.map Line.cells) ∧ wr.heap[X]? = some (.cells #[.int .i64 z, .slice Bk L.length cp] 42 (0, 0)) ∧ wr.heap[w.heap.size]? = some (.cells #[.int .i64 0, .slice none 0 0] 42 (0, 0)) ∧ wr.heap[PB]? = some (.cells cs 9 (0, 0)) ∧ Below w.heap.size w wr) (fun i _ => N - (intOf i).toNat)
  case atStart => exact ⟨0, 0, [], none, 0, Nat.zero_le _, rfl, Lib.hid RInv.start, by simp, Ow.nil_, HX1.out, HR1.out, HP1.out, hbA⟩
  case round =>
    obtain ⟨k, z, L, Bk, cp, hk, rfl, HInv, hL, how, hX, hR, hP, hbw⟩ := hrel
    have hbz := hbw.size
    have hXl := (Array.getElem?_eq_some_iff.1 hX).1
    have hRl := (Array.getElem?_eq_some_iff.1 hR).1
    have hPl2 := (Array.getElem?_eq_some_iff.1 hP).1
    have HX := Lib.hid hX
    have HR := Lib.hid hR
    have HP := Lib.hid hP
    have HW := Lib.hid how
    clear how hX hR hP HX1 HR1 HP1 hbA
    by_cases hlt : k < N
    · have hkL : k < LS.length := by rw [HNL.out]; exact hlt
      have HXT := Lib.hid (rd_tail hkL)
      obtain ⟨t, ht', ht⟩ := str_of LS[k]
      have hts : t.size ≤ 1048576 := by rw [ht.out.size]; exact HSz.out _ (List.getElem_mem hkL)
      have c0 : wr.cell? ⟨PB, k, none⟩ = some (.string t) := by rw [blk_cell HP.out, HCS.out k _ HXT.out, ht']
      obtain ⟨T, hT⟩ : ∃ T, LS[k] = T := ⟨_, rfl⟩
      rw [hT] at HXT ht
      have HTD := Lib.hid ht.out.data
      clear hT ht' ht hkL
      have i0 : (0 : Int) ≤ (k : Int) := by omega
      have i1 : (k : Int) < (N : Int) := by omega
      by_cases hk0 : k = 0
      · subst hk0
        obtain ⟨u, hu', hu⟩ := str_of (Lib.trimPrefix t.data.toList [108, 101, 100, 103, 101, 114, 32])
        have hus : u.size ≤ 281474976710656 := by
          have := trim_len t.data.toList [108, 101, 100, 103, 101, 114, 32]
          have hz : t.data.toList.length = t.size := Array.length_toList
          rw [hu.out.size]
          omega
        have HTrim := Lib.hid (fun W => Tryz.strings_TrimPrefix t ⟨#[108, 101, 100, 103, 101, 114, 32]⟩ W)
        rw [show (⟨#[108, 101, 100, 103, 101, 114, 32]⟩ : ByteArray).data.toList = [108, 101, 100, 103, 101, 114, 32] from rfl, hu'] at HTrim
        have HInv2 := Lib.hid (HInv.out.head (z := numOf u.data.toList) (fun z' l' h1 h2 => by
          rw [hu.out.data, HTD.out, HHead.out _ HXT.out z' l' h1 h2]
          exact led_num h1))
        clear hu' hu
        go_wp2_with fail
        refine (HTrim.out _).mono ?_
        rintro e w2 ⟨rfl, rfl⟩
        go_wp2_with fail
        refine (i_TextNum u _ (HLD.out.below (by (first | ((repeat' first | (with_reducible (first | exact Below.refl _ _ | assumption | refine Below.setCell ?_ ?_ _ | refine Below.alloc ?_ ?_ _ | refine Below.drew ?_ | refine below_drewN ?_ _ | refine Below.trans ?_ (Below.mono (by assumption) ?_))) | omega | (simp; omega) | (simp; done)); done) | (repeat' first | exact Below.refl _ _ | assumption | refine Below.setCell ?_ (by first | omega | (simp; omega) | (simp; done)) _ | refine Below.alloc ?_ (by first | omega | (simp; omega) | (simp; done)) _ | refine Below.drew ?_ | refine below_drewN ?_ _ | refine Below.trans ?_ (Below.mono (by assumption) (by first | omega | (simp; omega) | (simp; done))))))) hus).mono ?_
        rintro e w3 ⟨rfl, hb3⟩
        have z3 := hb3.size
        obtain ⟨x, hx⟩ : ∃ x, numOf u.data.toList = x := ⟨_, rfl⟩
        rw [hx] at HInv2 ⊢
        have hX3 := heap_below hb3 hXl HX.out
        have hR3 := heap_below hb3 hRl HR.out
        have hP3 := heap_below hb3 hPl2 HP.out
        have HW3 := Lib.hid (HW.out.below hb3)
        have NE := Lib.hid (HW3.out.ne_ hX3 (by decide))
        obtain ⟨_, a0, a1, af, az⟩ := own2 (g := X) (Below.refl _ w3) (by omega) hX3
        have hX4 := (heap_setP hX3 (.int .i64 x)).1
        have hR4 := heap_far (a := ⟨X, 0, none⟩) (u := .int .i64 x) (by show w.heap.size ≠ X; omega) hR3
        have hP4 := heap_far (a := ⟨X, 0, none⟩) (u := .int .i64 x) (by show PB ≠ X; omega) hP3
        have HX4 := Lib.hid hX4
        have HR4 := Lib.hid hR4
        have HP4 := Lib.hid hP4
        have HW4 := Lib.hid (show Ow (w3.setCell ⟨X, 0, none⟩ (.int .i64 x)) (w.heap.size + 1) 84 3 (.slice Bk L.length cp) (L.map Line.cells) from HW3.out.apart (X := X) (i := 0) NE.out _)
        have hbB : Below w.heap.size w w3 := by (first | ((repeat' first | (with_reducible (first | exact Below.refl _ _ | assumption | refine Below.setCell ?_ ?_ _ | refine Below.alloc ?_ ?_ _ | refine Below.drew ?_ | refine below_drewN ?_ _ | refine Below.trans ?_ (Below.mono (by assumption) ?_))) | omega | (simp; omega) | (simp; done)); done) | (repeat' first | exact Below.refl _ _ | assumption | refine Below.setCell ?_ (by first | omega | (simp; omega) | (simp; done)) _ | refine Below.alloc ?_ (by first | omega | (simp; omega) | (simp; done)) _ | refine Below.drew ?_ | refine below_drewN ?_ _ | refine Below.trans ?_ (Below.mono (by assumption) (by first | omega | (simp; omega) | (simp; done)))))
        clear hb3 hX3 hR3 hP3 hX4 hR4 hP4 hx
        go_wp2_with fail
        go_roundw
        case rel => exact ⟨0 + 1, x, L, Bk, cp, by omega, by go_num, HInv2, hL, HW4.out, HX4.out, HR4.out, HP4.out, by (first | ((repeat' first | (with_reducible (first | exact Below.refl _ _ | assumption | refine Below.setCell ?_ ?_ _ | refine Below.alloc ?_ ?_ _ | refine Below.drew ?_ | refine below_drewN ?_ _ | refine Below.trans ?_ (Below.mono (by assumption) ?_))) | omega | (simp; omega) | (simp; done)); done) | (repeat' first | exact Below.refl _ _ | assumption | refine Below.setCell ?_ (by first | omega | (simp; omega) | (simp; done)) _ | refine Below.alloc ?_ (by first | omega | (simp; omega) | (simp; done)) _ | refine Below.drew ?_ | refine below_drewN ?_ _ | refine Below.trans ?_ (Below.mono (by assumption) (by first | omega | (simp; omega) | (simp; done)))))⟩
        case measure => simp [intOf]; omega
      · have hk0f : ((k : Int) == 0) = false := by rw [beq_eq_false_iff_ne]; omega
        obtain ⟨m, rfl⟩ : ∃ m, k = m + 1 := ⟨k - 1, by omega⟩
        have HInv1 := Lib.hid (show RInv ledgerB ledgerL s.data.toList true m z L by
          have := HInv.out
          rwa [Nat.add_sub_cancel, decide_eq_true (by omega)] at this)
        clear HInv hk0
        go_wp2_with fail
        refine (i_textLine t 32 _ (HLD.out.below (by (first | ((repeat' first | (with_reducible (first | exact Below.refl _ _ | assumption | refine Below.setCell ?_ ?_ _ | refine Below.alloc ?_ ?_ _ | refine Below.drew ?_ | refine below_drewN ?_ _ | refine Below.trans ?_ (Below.mono (by assumption) ?_))) | omega | (simp; omega) | (simp; done)); done) | (repeat' first | exact Below.refl _ _ | assumption | refine Below.setCell ?_ (by first | omega | (simp; omega) | (simp; done)) _ | refine Below.alloc ?_ (by first | omega | (simp; omega) | (simp; done)) _ | refine Below.drew ?_ | refine below_drewN ?_ _ | refine Below.trans ?_ (Below.mono (by assumption) (by first | omega | (simp; omega) | (simp; done))))))) (by simp) hts).mono ?_
        rintro e w3 ⟨y, ok, rfl, hline, hb3⟩
        have z3 := hb3.size
        rw [HTD.out] at hline
        have HRead := Lib.hid (HS0.out _ _ _ _ HXT.out hline)
        have hX3 := heap_below hb3 hXl HX.out
        have hR3 := heap_below hb3 hRl HR.out
        have hP3 := heap_below hb3 hPl2 HP.out
        have HW3 := Lib.hid (HW.out.below hb3)
        obtain ⟨_, a0, a1, af, az⟩ := own2 (g := X) (Below.refl _ w3) (by omega) hX3
        obtain ⟨_, r0, r1, rf, rz⟩ := own2 (g := w.heap.size) (Below.refl _ w3) (by omega) hR3
        have HX3 := Lib.hid hX3
        have HR3 := Lib.hid hR3
        have HP3 := Lib.hid hP3
        have hbB : Below w.heap.size w w3 := by (first | ((repeat' first | (with_reducible (first | exact Below.refl _ _ | assumption | refine Below.setCell ?_ ?_ _ | refine Below.alloc ?_ ?_ _ | refine Below.drew ?_ | refine below_drewN ?_ _ | refine Below.trans ?_ (Below.mono (by assumption) ?_))) | omega | (simp; omega) | (simp; done)); done) | (repeat' first | exact Below.refl _ _ | assumption | refine Below.setCell ?_ (by first | omega | (simp; omega) | (simp; done)) _ | refine Below.alloc ?_ (by first | omega | (simp; omega) | (simp; done)) _ | refine Below.drew ?_ | refine below_drewN ?_ _ | refine Below.trans ?_ (Below.mono (by assumption) (by first | omega | (simp; omega) | (simp; done)))))
        clear hb3 hX3 hR3 hP3 hline HW
        cases ok
        · have HN := Lib.hid (led_none (B := ledgerB) (F := ledgerL) (s := s.data.toList) (fun z' l' h1 h2 => by
            obtain ⟨_, _, h3⟩ := HRead.out z' l' h1 h2
            cases h3))
          go_wp2_with fail
          refine bodyPost_ret (v := .tuple #[.agg #[.int .i64 0, .slice none 0 0], .bool false]) (by simp [results, Tryz.results23, go_sem, *]) rfl ⟨0, [], none, 0, false, rfl, Ow.nil_, HN.out, ?_⟩
          (first | ((repeat' first | (with_reducible (first | exact Below.refl _ _ | assumption | refine Below.setCell ?_ ?_ _ | refine Below.alloc ?_ ?_ _ | refine Below.drew ?_ | refine below_drewN ?_ _ | refine Below.trans ?_ (Below.mono (by assumption) ?_))) | omega | (simp; omega) | (simp; done)); done) | (repeat' first | exact Below.refl _ _ | assumption | refine Below.setCell ?_ (by first | omega | (simp; omega) | (simp; done)) _ | refine Below.alloc ?_ (by first | omega | (simp; omega) | (simp; done)) _ | refine Below.drew ?_ | refine below_drewN ?_ _ | refine Below.trans ?_ (Below.mono (by assumption) (by first | omega | (simp; omega) | (simp; done)))))
        · by_cases hfull : 320 ≤ L.length
          · have HN := Lib.hid (led_none (B := ledgerB) (F := ledgerL) (s := s.data.toList) (fun z' l' h1 h2 => by
              obtain ⟨h3, _, _⟩ := HRead.out z' l' h1 h2
              have h4 := (HInv1.out z' l' h1 h2).2
              have h5 := led_short h1
              have h6 := congrArg List.length h4
              rw [List.length_take] at h6
              omega))
            have hf : (320 : Int) ≤ (L.length : Int) := by omega
            go_wp2_with fail
            refine bodyPost_ret (v := .tuple #[.agg #[.int .i64 0, .slice none 0 0], .bool false]) (by simp [results, Tryz.results23, go_sem, *]) rfl ⟨0, [], none, 0, false, rfl, Ow.nil_, HN.out, ?_⟩
            (first | ((repeat' first | (with_reducible (first | exact Below.refl _ _ | assumption | refine Below.setCell ?_ ?_ _ | refine Below.alloc ?_ ?_ _ | refine Below.drew ?_ | refine below_drewN ?_ _ | refine Below.trans ?_ (Below.mono (by assumption) ?_))) | omega | (simp; omega) | (simp; done)); done) | (repeat' first | exact Below.refl _ _ | assumption | refine Below.setCell ?_ (by first | omega | (simp; omega) | (simp; done)) _ | refine Below.alloc ?_ (by first | omega | (simp; omega) | (simp; done)) _ | refine Below.drew ?_ | refine below_drewN ?_ _ | refine Below.trans ?_ (Below.mono (by assumption) (by first | omega | (simp; omega) | (simp; done)))))
          · have hf : decide ((320 : Int) ≤ (L.length : Int)) = false := decide_eq_false (by omega)
            have HInv2 := Lib.hid (HInv1.out.next (fun z' l' h1 h2 => by
              obtain ⟨h3, h4, _⟩ := HRead.out z' l' h1 h2
              exact ⟨h3, h4⟩))
            have hL2 : L.length ≤ 400 := by omega
            have hL3 : L.length + 1 ≤ 320 := by omega
            clear hfull
            obtain ⟨y0, y1, y2⟩ := y
            have NE := Lib.hid (HW3.out.ne_ HX3.out (by decide))
            have NP := Lib.hid (HW3.out.ne_ HP3.out (by decide))
            have NR := Lib.hid (HW3.out.ne_ HR3.out (by decide))
            have OB := Lib.hid HW3.out.block
            have KX := Lib.hid (fun o1 o2 (w6 : World) (hgr : ((w3.alloc o1).alloc o2).grownBy w6 (Value.slice Bk L.length cp).ownBlock) => heap_grown hgr NE.out (heap_past (by simp; omega) (heap_past (by omega) HX3.out)))
            have KP := Lib.hid (fun o1 o2 (w6 : World) (hgr : ((w3.alloc o1).alloc o2).grownBy w6 (Value.slice Bk L.length cp).ownBlock) => heap_grown hgr NP.out (heap_past (by simp; omega) (heap_past (by omega) HP3.out)))
            have KR := Lib.hid (fun o1 o2 (w6 : World) (hgr : ((w3.alloc o1).alloc o2).grownBy w6 (Value.slice Bk L.length cp).ownBlock) => heap_grown hgr NR.out (heap_past (by simp; omega) (heap_past (by omega) HR3.out)))
            have KB := Lib.hid (fun o1 o2 (w6 : World) (hgr : ((w3.alloc o1).alloc o2).grownBy w6 (Value.slice Bk L.length cp).ownBlock) => ((hbB.alloc (by omega) o1).alloc (by simp; omega) o2).grown hgr (by simp; omega) (fun k e => by have := (OB.out k e).1; omega))
            go_wp2_with (at_builtin; refine wpList_app1 rfl _ _ _ rfl (w.heap.size + 1) 84 ti0 _ 3 24 Tryz.underlying40 HI.out HZ0.out HZ1.out HZ2.out rfl (by decide) (.slice Bk L.length cp) (L.map Line.cells) rfl ((HW3.out.alloc _).alloc _) (w3.heap.size + 1) 1 [.int .i64 y0, .int .i64 y1, .int .i64 y2] 84 rfl (heap_at (by first | rfl | (simp; done))) rfl (by simp [Value.oneCell']) (by rw [List.length_map]; omega) (by decide) (by first | omega | (simp; omega) | (simp; done)) ?_; intro g cap' w6 how6 hgr6 hat6 hlt6; rw [List.length_map] at how6; rw [List.length_map]; have hX6 := KX.out _ _ _ hgr6; have hP6 := KP.out _ _ _ hgr6; have hR6 := KR.out _ _ _ hgr6; have hb6 := KB.out _ _ _ hgr6; have O6 := Lib.hid how6; have N6 := Lib.hid (how6.ne_ hX6 (by decide)); have z6 := hb6.size; obtain ⟨_, b0, b1, bf, bz⟩ := own2 (g := X) (Below.refl _ w6) (Array.getElem?_eq_some_iff.1 hX6).1 hX6; have HX6 := Lib.hid (heap_setP hX6 (.slice (some ⟨g, 0, none⟩) (L.length + 1) cap')).2; have HR6 := Lib.hid (heap_far (a := ⟨X, 1, none⟩) (u := .slice (some ⟨g, 0, none⟩) (L.length + 1) cap') (by show w.heap.size ≠ X; omega) hR6); have HP6 := Lib.hid (heap_far (a := ⟨X, 1, none⟩) (u := .slice (some ⟨g, 0, none⟩) (L.length + 1) cap') (by show PB ≠ X; omega) hP6); have HW7 := Lib.hid (how6.apart (X := X) (i := 1) N6.out (.slice (some ⟨g, 0, none⟩) (L.length + 1) cap')); clear how6 hgr6 hat6 hX6 hP6 hR6 O6)
            go_roundw
            case rel =>
              refine ⟨m + 1 + 1, z, L ++ [⟨y0, y1, y2⟩], some ⟨g, 0, none⟩, cap', by omega, by go_num, Lib.hid (by
                rw [decide_eq_true (by omega), show m + 1 + 1 - 1 = m + 1 by omega]
                exact HInv2.out), by simp; omega, ?_, ?_, HR6.out, HP6.out, by (first | ((repeat' first | (with_reducible (first | exact Below.refl _ _ | assumption | refine Below.setCell ?_ ?_ _ | refine Below.alloc ?_ ?_ _ | refine Below.drew ?_ | refine below_drewN ?_ _ | refine Below.trans ?_ (Below.mono (by assumption) ?_))) | omega | (simp; omega) | (simp; done)); done) | (repeat' first | exact Below.refl _ _ | assumption | refine Below.setCell ?_ (by first | omega | (simp; omega) | (simp; done)) _ | refine Below.alloc ?_ (by first | omega | (simp; omega) | (simp; done)) _ | refine Below.drew ?_ | refine below_drewN ?_ _ | refine Below.trans ?_ (Below.mono (by assumption) (by first | omega | (simp; omega) | (simp; done)))))⟩
              · rw [List.map_append, List.length_append]
                exact HW7.out
              · rw [List.length_append]
                exact HX6.out
            case measure => simp [intOf]; omega
    · obtain rfl : k = N := by omega
      obtain ⟨_, a0, a1, af, az⟩ := own2 (g := X) (Below.refl _ wr) (by omega) HX.out
      have HRd := Lib.hid HW.out.rd
      go_wp2_with fail
      refine (i_LedgerText z L _ _ _ (HLD.out.below hbw).toLd (by omega) HRd.out).mono ?_
      rintro e w3 ⟨rfl, hb3⟩
      have z3 := hb3.size
      obtain ⟨t, ht', ht⟩ := str_of (ledgerL z L)
      rw [ht']
      clear ht'
      have hX3 := heap_below hb3 hXl HX.out
      have hR3 := heap_below hb3 hRl HR.out
      have HW3 := Lib.hid (HW.out.below hb3)
      obtain ⟨_, b0, b1, bf, bz⟩ := own2 (g := X) (Below.refl _ w3) (by omega) hX3
      obtain ⟨_, r0, r1, rf, rz⟩ := own2 (g := w.heap.size) (Below.refl _ w3) (by omega) hR3
      have NR := Lib.hid (HW3.out.ne_ hR3 (by decide))
      have hbB : Below w.heap.size w w3 := by (first | ((repeat' first | (with_reducible (first | exact Below.refl _ _ | assumption | refine Below.setCell ?_ ?_ _ | refine Below.alloc ?_ ?_ _ | refine Below.drew ?_ | refine below_drewN ?_ _ | refine Below.trans ?_ (Below.mono (by assumption) ?_))) | omega | (simp; omega) | (simp; done)); done) | (repeat' first | exact Below.refl _ _ | assumption | refine Below.setCell ?_ (by first | omega | (simp; omega) | (simp; done)) _ | refine Below.alloc ?_ (by first | omega | (simp; omega) | (simp; done)) _ | refine Below.drew ?_ | refine below_drewN ?_ _ | refine Below.trans ?_ (Below.mono (by assumption) (by first | omega | (simp; omega) | (simp; done)))))
      have HMiss := Lib.hid (show ledgerL z L ≠ s.data.toList → LedIs ledgerB ledgerL s.data.toList 0 [] false from fun h => by
        by_cases hd : 1 ≤ k
        · have hI := HInv.out
          rw [decide_eq_true hd] at hI
          exact hI.miss (fun z' l' h1 h2 => by have := HCnt.out z' l' h1 h2; omega) h
        · exact led_none (fun z' l' h1 h2 => by have := HCnt.out z' l' h1 h2; omega))
      clear hb3 hX3 hR3 a0 a1 af
      by_cases he : t = ⟨#[]⟩
      · have HN : Hid (LedIs ledgerB ledgerL s.data.toList 0 [] false) := Lib.hid (by
          by_cases hse : ledgerL z L = s.data.toList
          · refine led_none (fun z' l' h1 h2 => ?_)
            have h3 := ht.out.data
            rw [he] at h3
            rw [← hse, ← h3] at h2
            exact led_text_ne h1 h2
          · exact HMiss.out hse)
        subst he
        go_wp2_with fail
        refine bodyPost_ret (v := .tuple #[.agg #[.int .i64 0, .slice none 0 0], .bool false]) (by simp [results, Tryz.results23, go_sem, *]) rfl ⟨0, [], none, 0, false, rfl, Ow.nil_, HN.out, ?_⟩
        (first | ((repeat' first | (with_reducible (first | exact Below.refl _ _ | assumption | refine Below.setCell ?_ ?_ _ | refine Below.alloc ?_ ?_ _ | refine Below.drew ?_ | refine below_drewN ?_ _ | refine Below.trans ?_ (Below.mono (by assumption) ?_))) | omega | (simp; omega) | (simp; done)); done) | (repeat' first | exact Below.refl _ _ | assumption | refine Below.setCell ?_ (by first | omega | (simp; omega) | (simp; done)) _ | refine Below.alloc ?_ (by first | omega | (simp; omega) | (simp; done)) _ | refine Below.drew ?_ | refine below_drewN ?_ _ | refine Below.trans ?_ (Below.mono (by assumption) (by first | omega | (simp; omega) | (simp; done)))))
      · have hne := neq_str he
        have hne1 : t.toList.isEmpty = false := by
          have h := neq_str he
          cases hx : t.toList with
          | nil => rw [hx] at h; simp at h
          | cons a r => rfl
        have hne2 : ledgerL z L ≠ [] := fun h => he (by
          have := ht.out
          unfold Str at this
          rw [this, h])
        have HNE := Lib.hid hne2
        clear hne hne2
        by_cases et : t = s
        · have HN := Lib.hid (led_hit (s := s.data.toList) (z := z) (L := L) (by rw [← eq_str ht.out et]; exact HNE.out) (eq_str ht.out et))
          have HWR := Lib.hid (HW3.out.apart2 (X := w.heap.size) NR.out (.int .i64 z) (.slice Bk L.length cp))
          subst et
          clear he
          go_wp2_with fail
          refine bodyPost_ret (v := .tuple #[.agg #[.int .i64 z, .slice Bk L.length cp], .bool true]) (by simp [results, Tryz.results23, go_sem, *]) rfl ⟨z, L, Bk, cp, true, rfl, ?_, HN.out, ?_⟩
          · exact HWR.out.more (by omega)
          · (first | ((repeat' first | (with_reducible (first | exact Below.refl _ _ | assumption | refine Below.setCell ?_ ?_ _ | refine Below.alloc ?_ ?_ _ | refine Below.drew ?_ | refine below_drewN ?_ _ | refine Below.trans ?_ (Below.mono (by assumption) ?_))) | omega | (simp; omega) | (simp; done)); done) | (repeat' first | exact Below.refl _ _ | assumption | refine Below.setCell ?_ (by first | omega | (simp; omega) | (simp; done)) _ | refine Below.alloc ?_ (by first | omega | (simp; omega) | (simp; done)) _ | refine Below.drew ?_ | refine below_drewN ?_ _ | refine Below.trans ?_ (Below.mono (by assumption) (by first | omega | (simp; omega) | (simp; done)))))
        · have HN := Lib.hid (HMiss.out (ne_str ht.out et))
          have hneq := neq_str et
          clear et he
          go_wp2_with fail
          refine bodyPost_ret (v := .tuple #[.agg #[.int .i64 0, .slice none 0 0], .bool false]) (by simp [results, Tryz.results23, go_sem, *]) rfl ⟨0, [], none, 0, false, rfl, Ow.nil_, HN.out, ?_⟩
          (first | ((repeat' first | (with_reducible (first | exact Below.refl _ _ | assumption | refine Below.setCell ?_ ?_ _ | refine Below.alloc ?_ ?_ _ | refine Below.drew ?_ | refine below_drewN ?_ _ | refine Below.trans ?_ (Below.mono (by assumption) ?_))) | omega | (simp; omega) | (simp; done)); done) | (repeat' first | exact Below.refl _ _ | assumption | refine Below.setCell ?_ (by first | omega | (simp; omega) | (simp; done)) _ | refine Below.alloc ?_ (by first | omega | (simp; omega) | (simp; done)) _ | refine Below.drew ?_ | refine below_drewN ?_ _ | refine Below.trans ?_ (Below.mono (by assumption) (by first | omega | (simp; omega) | (simp; done)))))
set_option maxRecDepth 100000 in
set_option maxHeartbeats 4000000 in
theorem i_TextPosting (s : ByteArray) (w : World) (hld : Le w) (hs : s.size ≤ 1048576) : Calls Tryz.prog 24 #[.string s] w (RdL postingB postingL s w) := by
  have HLD := Lib.hid hld
  have hz : s.data.toList.length = s.size := Array.length_toList
  have hln := parts_len 32 s.data.toList
  have HSub := Lib.hid (parts_sub 32 s.data.toList)
  have HS0 := Lib.hid (show ∀ (m : Nat) (x : List UInt8) (y : Line) (ok : Bool), (parts 32 s.data.toList)[m + 2]? = some x → LineIs 58 x y ok → ∀ z' l', postingB z' l' = true → postingL z' l' = s.data.toList → ∃ hm : m < l'.length, y = l'[m] ∧ ok = true from fun _ _ _ _ h1 h2 => post_read h1 h2)
  have HCnt := Lib.hid (post_count (s := s.data.toList))
  have HHead := Lib.hid (fun x (h : (parts 32 s.data.toList)[1]? = some x) => post_part1 h)
  obtain ⟨ti0, hi, hz0, hz1, hz2⟩ := info_parts info_line
  have HI := Lib.hid hi
  have HZ0 := Lib.hid hz0
  have HZ1 := Lib.hid hz1
  have HZ2 := Lib.hid hz2
  have HC := Lib.hid (fun W (h : Ld W) => i_Split s 32 W h (by omega))
  obtain ⟨LS, hLS⟩ : ∃ LS, parts 32 s.data.toList = LS := ⟨_, rfl⟩
  rw [hLS] at HSub HS0 HCnt HHead HC hln
  obtain ⟨N, hN⟩ : ∃ N, LS.length = N := ⟨_, rfl⟩
  rw [hN] at HCnt hln HC
  have hN1 : N ≤ 1048577 := by omega
  have HNL := Lib.hid hN
  have HSz := Lib.hid (show ∀ x ∈ LS, x.length ≤ 1048576 from fun x hx => by have := HSub.out x hx; omega)
  clear hi hz0 hz1 hz2 hld hz hln hLS hN HSub
  go_enter Tryz.func24, Tryz.ntmps24
  go_wp2_with fail
  refine (HC.out _ ((HLD.out.below (by (first | ((repeat' first | (with_reducible (first | exact Below.refl _ _ | assumption | refine Below.setCell ?_ ?_ _ | refine Below.alloc ?_ ?_ _ | refine Below.drew ?_ | refine below_drewN ?_ _ | refine Below.trans ?_ (Below.mono (by assumption) ?_))) | omega | (simp; omega) | (simp; done)); done) | (repeat' first | exact Below.refl _ _ | assumption | refine Below.setCell ?_ (by first | omega | (simp; omega) | (simp; done)) _ | refine Below.alloc ?_ (by first | omega | (simp; omega) | (simp; done)) _ | refine Below.drew ?_ | refine below_drewN ?_ _ | refine Below.trans ?_ (Below.mono (by assumption) (by first | omega | (simp; omega) | (simp; done))))))).toLd)).mono ?_
  rintro e w0 ⟨rfl, how0, hb0⟩
  have z0 := hb0.size
  (try simp at z0)
  obtain ⟨cs, hP0, hcs⟩ := how0.strs
  obtain ⟨PB, hPB⟩ : ∃ PB, PB = w.heap.size + 1 := ⟨_, rfl⟩
  have e2 : (w.alloc (.cells #[.int .i64 0, .slice none 0 0] 45)).heap.size = PB := by rw [hPB]; simp
  have hR0 := heap_below (n := w.heap.size) hb0 (by simp) (heap_at rfl)
  rw [e2] at hP0 ⊢
  obtain ⟨X, hX⟩ : ∃ X, X = w0.heap.size := ⟨_, rfl⟩
  have hPl0 : PB < w0.heap.size := (Array.getElem?_eq_some_iff.1 hP0).1
  have hXR : w.heap.size < X := by omega
  have hXP : X ≠ PB := by omega
  have hRP : w.heap.size ≠ PB := by omega
  obtain ⟨w1, hw1⟩ : ∃ w1, w0.alloc (.cells #[.int .i64 0, .slice none 0 0] 45) = w1 := ⟨_, rfl⟩
  have HR1 : Hid (w1.heap[w.heap.size]? = some (.cells #[.int .i64 0, .slice none 0 0] 45 (0, 0))) := Lib.hid (by rw [← hw1]; exact heap_past (by omega) hR0)
  have HX1 : Hid (w1.heap[X]? = some (.cells #[.int .i64 0, .slice none 0 0] 45 (0, 0))) := Lib.hid (by rw [← hw1]; exact heap_at hX)
  have HP1 : Hid (w1.heap[PB]? = some (.cells cs 9 (0, 0))) := Lib.hid (by rw [← hw1]; exact heap_past hPl0 hP0)
  have HCS := Lib.hid hcs
  have hbA : Below w.heap.size w w1 := by rw [← hw1]; exact Below.alloc (by (first | ((repeat' first | (with_reducible (first | exact Below.refl _ _ | assumption | refine Below.setCell ?_ ?_ _ | refine Below.alloc ?_ ?_ _ | refine Below.drew ?_ | refine below_drewN ?_ _ | refine Below.trans ?_ (Below.mono (by assumption) ?_))) | omega | (simp; omega) | (simp; done)); done) | (repeat' first | exact Below.refl _ _ | assumption | refine Below.setCell ?_ (by first | omega | (simp; omega) | (simp; done)) _ | refine Below.alloc ?_ (by first | omega | (simp; omega) | (simp; done)) _ | refine Below.drew ?_ | refine below_drewN ?_ _ | refine Below.trans ?_ (Below.mono (by assumption) (by first | omega | (simp; omega) | (simp; done)))))) (by omega) _
  have hPl : PB < w1.heap.size := (Array.getElem?_eq_some_iff.1 HP1.out).1
  have hcap0 : N ≤ N := Nat.le_refl _
  have HW1 := Lib.hid hw1
  have HXX := Lib.hid hX
  clear hb0 hR0 hP0 how0 hcs hPB hX hw1 e2 HC z0 hPl0
  go_wp2_with fail
  rw [HW1.out, ← HXX.out]
  clear HW1 HXX
  go_loopw [15] (fun i wr => ∃ (k : Nat) (z : Int) (L : List Line) (Bk : Option Addr) (cp : Nat), k ≤ N ∧ i = .int .i64 k ∧ Hid (RInv postingB postingL s.data.toList (decide (2 ≤ k)) (k - 2) z L) ∧ L.length ≤ 8 ∧ Ow wr (w.heap.size + 1) 84 3 (.slice Bk L.length cp) (L.map Line.cells) ∧ wr.heap[X]? = some (.cells #[.int .i64 z, .slice Bk L.length cp] 45 (0, 0)) ∧ wr.heap[w.heap.size]? = some (.cells #[.int .i64 0, .slice none 0 0] 45 (0, 0)) ∧ wr.heap[PB]? = some (.cells cs 9 (0, 0)) ∧ Below w.heap.size w wr) (fun i _ => N - (intOf i).toNat)
  case atStart => exact ⟨0, 0, [], none, 0, Nat.zero_le _, rfl, Lib.hid RInv.start, by simp, Ow.nil_, HX1.out, HR1.out, HP1.out, hbA⟩
  case round =>
    obtain ⟨k, z, L, Bk, cp, hk, rfl, HInv, hL, how, hX, hR, hP, hbw⟩ := hrel
    have hbz := hbw.size
    have hXl := (Array.getElem?_eq_some_iff.1 hX).1
    have hRl := (Array.getElem?_eq_some_iff.1 hR).1
    have hPl2 := (Array.getElem?_eq_some_iff.1 hP).1
    have HX := Lib.hid hX
    have HR := Lib.hid hR
    have HP := Lib.hid hP
    have HW := Lib.hid how
    clear how hX hR hP HX1 HR1 HP1 hbA
    by_cases hlt : k < N
    · have hkL : k < LS.length := by rw [HNL.out]; exact hlt
      have HXT := Lib.hid (rd_tail hkL)
      obtain ⟨t, ht', ht⟩ := str_of LS[k]
      have hts : t.size ≤ 1048576 := by rw [ht.out.size]; exact HSz.out _ (List.getElem_mem hkL)
      have c0 : wr.cell? ⟨PB, k, none⟩ = some (.string t) := by rw [blk_cell HP.out, HCS.out k _ HXT.out, ht']
      obtain ⟨T, hT⟩ : ∃ T, LS[k] = T := ⟨_, rfl⟩
      rw [hT] at HXT ht
      have HTD := Lib.hid ht.out.data
      clear hT ht' ht hkL
      have i0 : (0 : Int) ≤ (k : Int) := by omega
      have i1 : (k : Int) < (N : Int) := by omega
      by_cases hk0 : k = 0
      · subst hk0
        go_wp2_with fail
        go_roundw
        case rel => exact ⟨1, z, L, Bk, cp, by omega, by go_num, HInv, hL, HW.out, HX.out, HR.out, HP.out, hbw⟩
        case measure => simp [intOf]; omega
      · have hk0f : ((k : Int) == 0) = false := by rw [beq_eq_false_iff_ne]; omega
        by_cases hk1 : k = 1
        · subst hk1
          have HInv2 := Lib.hid (HInv.out.head (z := numOf t.data.toList) (fun z' l' h1 h2 => by
            rw [HTD.out, HHead.out _ HXT.out z' l' h1 h2]
            exact post_num h1))
          clear hk0
          go_wp2_with fail
          refine (i_TextNum t _ (HLD.out.below (by (first | ((repeat' first | (with_reducible (first | exact Below.refl _ _ | assumption | refine Below.setCell ?_ ?_ _ | refine Below.alloc ?_ ?_ _ | refine Below.drew ?_ | refine below_drewN ?_ _ | refine Below.trans ?_ (Below.mono (by assumption) ?_))) | omega | (simp; omega) | (simp; done)); done) | (repeat' first | exact Below.refl _ _ | assumption | refine Below.setCell ?_ (by first | omega | (simp; omega) | (simp; done)) _ | refine Below.alloc ?_ (by first | omega | (simp; omega) | (simp; done)) _ | refine Below.drew ?_ | refine below_drewN ?_ _ | refine Below.trans ?_ (Below.mono (by assumption) (by first | omega | (simp; omega) | (simp; done))))))) (by omega)).mono ?_
          rintro e w3 ⟨rfl, hb3⟩
          have z3 := hb3.size
          obtain ⟨x, hx⟩ : ∃ x, numOf t.data.toList = x := ⟨_, rfl⟩
          rw [hx] at HInv2 ⊢
          have hX3 := heap_below hb3 hXl HX.out
          have hR3 := heap_below hb3 hRl HR.out
          have hP3 := heap_below hb3 hPl2 HP.out
          have HW3 := Lib.hid (HW.out.below hb3)
          have NE := Lib.hid (HW3.out.ne_ hX3 (by decide))
          obtain ⟨_, a0, a1, af, az⟩ := own2 (g := X) (Below.refl _ w3) (by omega) hX3
          have hX4 := (heap_setP hX3 (.int .i64 x)).1
          have hR4 := heap_far (a := ⟨X, 0, none⟩) (u := .int .i64 x) (by show w.heap.size ≠ X; omega) hR3
          have hP4 := heap_far (a := ⟨X, 0, none⟩) (u := .int .i64 x) (by show PB ≠ X; omega) hP3
          have HX4 := Lib.hid hX4
          have HR4 := Lib.hid hR4
          have HP4 := Lib.hid hP4
          have HW4 := Lib.hid (show Ow (w3.setCell ⟨X, 0, none⟩ (.int .i64 x)) (w.heap.size + 1) 84 3 (.slice Bk L.length cp) (L.map Line.cells) from HW3.out.apart (X := X) (i := 0) NE.out _)
          have hbB : Below w.heap.size w w3 := by (first | ((repeat' first | (with_reducible (first | exact Below.refl _ _ | assumption | refine Below.setCell ?_ ?_ _ | refine Below.alloc ?_ ?_ _ | refine Below.drew ?_ | refine below_drewN ?_ _ | refine Below.trans ?_ (Below.mono (by assumption) ?_))) | omega | (simp; omega) | (simp; done)); done) | (repeat' first | exact Below.refl _ _ | assumption | refine Below.setCell ?_ (by first | omega | (simp; omega) | (simp; done)) _ | refine Below.alloc ?_ (by first | omega | (simp; omega) | (simp; done)) _ | refine Below.drew ?_ | refine below_drewN ?_ _ | refine Below.trans ?_ (Below.mono (by assumption) (by first | omega | (simp; omega) | (simp; done)))))
          clear hb3 hX3 hR3 hP3 hX4 hR4 hP4 hx
          go_wp2_with fail
          go_roundw
          case rel => exact ⟨1 + 1, x, L, Bk, cp, by omega, by go_num, HInv2, hL, HW4.out, HX4.out, HR4.out, HP4.out, by (first | ((repeat' first | (with_reducible (first | exact Below.refl _ _ | assumption | refine Below.setCell ?_ ?_ _ | refine Below.alloc ?_ ?_ _ | refine Below.drew ?_ | refine below_drewN ?_ _ | refine Below.trans ?_ (Below.mono (by assumption) ?_))) | omega | (simp; omega) | (simp; done)); done) | (repeat' first | exact Below.refl _ _ | assumption | refine Below.setCell ?_ (by first | omega | (simp; omega) | (simp; done)) _ | refine Below.alloc ?_ (by first | omega | (simp; omega) | (simp; done)) _ | refine Below.drew ?_ | refine below_drewN ?_ _ | refine Below.trans ?_ (Below.mono (by assumption) (by first | omega | (simp; omega) | (simp; done)))))⟩
          case measure => simp [intOf]; omega
        · have hk1f : ((k : Int) == 1) = false := by rw [beq_eq_false_iff_ne]; omega
          obtain ⟨m, rfl⟩ : ∃ m, k = m + 2 := ⟨k - 2, by omega⟩
          have HInv1 := Lib.hid (show RInv postingB postingL s.data.toList true m z L by
            have := HInv.out
            rwa [Nat.add_sub_cancel, decide_eq_true (by omega)] at this)
          clear HInv hk0 hk1
          go_wp2_with fail
          refine (i_textLine t 58 _ (HLD.out.below (by (first | ((repeat' first | (with_reducible (first | exact Below.refl _ _ | assumption | refine Below.setCell ?_ ?_ _ | refine Below.alloc ?_ ?_ _ | refine Below.drew ?_ | refine below_drewN ?_ _ | refine Below.trans ?_ (Below.mono (by assumption) ?_))) | omega | (simp; omega) | (simp; done)); done) | (repeat' first | exact Below.refl _ _ | assumption | refine Below.setCell ?_ (by first | omega | (simp; omega) | (simp; done)) _ | refine Below.alloc ?_ (by first | omega | (simp; omega) | (simp; done)) _ | refine Below.drew ?_ | refine below_drewN ?_ _ | refine Below.trans ?_ (Below.mono (by assumption) (by first | omega | (simp; omega) | (simp; done))))))) (by simp) hts).mono ?_
          rintro e w3 ⟨y, ok, rfl, hline, hb3⟩
          have z3 := hb3.size
          rw [HTD.out] at hline
          have HRead := Lib.hid (HS0.out _ _ _ _ HXT.out hline)
          have hX3 := heap_below hb3 hXl HX.out
          have hR3 := heap_below hb3 hRl HR.out
          have hP3 := heap_below hb3 hPl2 HP.out
          have HW3 := Lib.hid (HW.out.below hb3)
          obtain ⟨_, a0, a1, af, az⟩ := own2 (g := X) (Below.refl _ w3) (by omega) hX3
          obtain ⟨_, r0, r1, rf, rz⟩ := own2 (g := w.heap.size) (Below.refl _ w3) (by omega) hR3
          have HX3 := Lib.hid hX3
          have HR3 := Lib.hid hR3
          have HP3 := Lib.hid hP3
          have hbB : Below w.heap.size w w3 := by (first | ((repeat' first | (with_reducible (first | exact Below.refl _ _ | assumption | refine Below.setCell ?_ ?_ _ | refine Below.alloc ?_ ?_ _ | refine Below.drew ?_ | refine below_drewN ?_ _ | refine Below.trans ?_ (Below.mono (by assumption) ?_))) | omega | (simp; omega) | (simp; done)); done) | (repeat' first | exact Below.refl _ _ | assumption | refine Below.setCell ?_ (by first | omega | (simp; omega) | (simp; done)) _ | refine Below.alloc ?_ (by first | omega | (simp; omega) | (simp; done)) _ | refine Below.drew ?_ | refine below_drewN ?_ _ | refine Below.trans ?_ (Below.mono (by assumption) (by first | omega | (simp; omega) | (simp; done)))))
          clear hb3 hX3 hR3 hP3 hline HW
          cases ok
          · have HN := Lib.hid (led_none (B := postingB) (F := postingL) (s := s.data.toList) (fun z' l' h1 h2 => by
              obtain ⟨_, _, h3⟩ := HRead.out z' l' h1 h2
              cases h3))
            go_wp2_with fail
            refine bodyPost_ret (v := .tuple #[.agg #[.int .i64 0, .slice none 0 0], .bool false]) (by simp [results, Tryz.results24, go_sem, *]) rfl ⟨0, [], none, 0, false, rfl, Ow.nil_, HN.out, ?_⟩
            (first | ((repeat' first | (with_reducible (first | exact Below.refl _ _ | assumption | refine Below.setCell ?_ ?_ _ | refine Below.alloc ?_ ?_ _ | refine Below.drew ?_ | refine below_drewN ?_ _ | refine Below.trans ?_ (Below.mono (by assumption) ?_))) | omega | (simp; omega) | (simp; done)); done) | (repeat' first | exact Below.refl _ _ | assumption | refine Below.setCell ?_ (by first | omega | (simp; omega) | (simp; done)) _ | refine Below.alloc ?_ (by first | omega | (simp; omega) | (simp; done)) _ | refine Below.drew ?_ | refine below_drewN ?_ _ | refine Below.trans ?_ (Below.mono (by assumption) (by first | omega | (simp; omega) | (simp; done)))))
          · by_cases hfull : 8 ≤ L.length
            · have HN := Lib.hid (led_none (B := postingB) (F := postingL) (s := s.data.toList) (fun z' l' h1 h2 => by
                obtain ⟨h3, _, _⟩ := HRead.out z' l' h1 h2
                have h4 := (HInv1.out z' l' h1 h2).2
                have h5 := post_short h1
                have h6 := congrArg List.length h4
                rw [List.length_take] at h6
                omega))
              have hf : (8 : Int) ≤ (L.length : Int) := by omega
              go_wp2_with fail
              refine bodyPost_ret (v := .tuple #[.agg #[.int .i64 0, .slice none 0 0], .bool false]) (by simp [results, Tryz.results24, go_sem, *]) rfl ⟨0, [], none, 0, false, rfl, Ow.nil_, HN.out, ?_⟩
              (first | ((repeat' first | (with_reducible (first | exact Below.refl _ _ | assumption | refine Below.setCell ?_ ?_ _ | refine Below.alloc ?_ ?_ _ | refine Below.drew ?_ | refine below_drewN ?_ _ | refine Below.trans ?_ (Below.mono (by assumption) ?_))) | omega | (simp; omega) | (simp; done)); done) | (repeat' first | exact Below.refl _ _ | assumption | refine Below.setCell ?_ (by first | omega | (simp; omega) | (simp; done)) _ | refine Below.alloc ?_ (by first | omega | (simp; omega) | (simp; done)) _ | refine Below.drew ?_ | refine below_drewN ?_ _ | refine Below.trans ?_ (Below.mono (by assumption) (by first | omega | (simp; omega) | (simp; done)))))
            · have hf : decide ((8 : Int) ≤ (L.length : Int)) = false := decide_eq_false (by omega)
              have HInv2 := Lib.hid (HInv1.out.next (fun z' l' h1 h2 => by
                obtain ⟨h3, h4, _⟩ := HRead.out z' l' h1 h2
                exact ⟨h3, h4⟩))
              have hL2 : L.length ≤ 400 := by omega
              have hL3 : L.length + 1 ≤ 8 := by omega
              clear hfull
              obtain ⟨y0, y1, y2⟩ := y
              have NE := Lib.hid (HW3.out.ne_ HX3.out (by decide))
              have NP := Lib.hid (HW3.out.ne_ HP3.out (by decide))
              have NR := Lib.hid (HW3.out.ne_ HR3.out (by decide))
              have OB := Lib.hid HW3.out.block
              have KX := Lib.hid (fun o1 o2 (w6 : World) (hgr : ((w3.alloc o1).alloc o2).grownBy w6 (Value.slice Bk L.length cp).ownBlock) => heap_grown hgr NE.out (heap_past (by simp; omega) (heap_past (by omega) HX3.out)))
              have KP := Lib.hid (fun o1 o2 (w6 : World) (hgr : ((w3.alloc o1).alloc o2).grownBy w6 (Value.slice Bk L.length cp).ownBlock) => heap_grown hgr NP.out (heap_past (by simp; omega) (heap_past (by omega) HP3.out)))
              have KR := Lib.hid (fun o1 o2 (w6 : World) (hgr : ((w3.alloc o1).alloc o2).grownBy w6 (Value.slice Bk L.length cp).ownBlock) => heap_grown hgr NR.out (heap_past (by simp; omega) (heap_past (by omega) HR3.out)))
              have KB := Lib.hid (fun o1 o2 (w6 : World) (hgr : ((w3.alloc o1).alloc o2).grownBy w6 (Value.slice Bk L.length cp).ownBlock) => ((hbB.alloc (by omega) o1).alloc (by simp; omega) o2).grown hgr (by simp; omega) (fun k e => by have := (OB.out k e).1; omega))
              go_wp2_with (at_builtin; refine wpList_app1 rfl _ _ _ rfl (w.heap.size + 1) 84 ti0 _ 3 24 Tryz.underlying40 HI.out HZ0.out HZ1.out HZ2.out rfl (by decide) (.slice Bk L.length cp) (L.map Line.cells) rfl ((HW3.out.alloc _).alloc _) (w3.heap.size + 1) 1 [.int .i64 y0, .int .i64 y1, .int .i64 y2] 84 rfl (heap_at (by first | rfl | (simp; done))) rfl (by simp [Value.oneCell']) (by rw [List.length_map]; omega) (by decide) (by first | omega | (simp; omega) | (simp; done)) ?_; intro g cap' w6 how6 hgr6 hat6 hlt6; rw [List.length_map] at how6; rw [List.length_map]; have hX6 := KX.out _ _ _ hgr6; have hP6 := KP.out _ _ _ hgr6; have hR6 := KR.out _ _ _ hgr6; have hb6 := KB.out _ _ _ hgr6; have O6 := Lib.hid how6; have N6 := Lib.hid (how6.ne_ hX6 (by decide)); have z6 := hb6.size; obtain ⟨_, b0, b1, bf, bz⟩ := own2 (g := X) (Below.refl _ w6) (Array.getElem?_eq_some_iff.1 hX6).1 hX6; have HX6 := Lib.hid (heap_setP hX6 (.slice (some ⟨g, 0, none⟩) (L.length + 1) cap')).2; have HR6 := Lib.hid (heap_far (a := ⟨X, 1, none⟩) (u := .slice (some ⟨g, 0, none⟩) (L.length + 1) cap') (by show w.heap.size ≠ X; omega) hR6); have HP6 := Lib.hid (heap_far (a := ⟨X, 1, none⟩) (u := .slice (some ⟨g, 0, none⟩) (L.length + 1) cap') (by show PB ≠ X; omega) hP6); have HW7 := Lib.hid (how6.apart (X := X) (i := 1) N6.out (.slice (some ⟨g, 0, none⟩) (L.length + 1) cap')); clear how6 hgr6 hat6 hX6 hP6 hR6 O6)
              go_roundw
              case rel =>
                refine ⟨m + 2 + 1, z, L ++ [⟨y0, y1, y2⟩], some ⟨g, 0, none⟩, cap', by omega, by go_num, Lib.hid (by
                  rw [decide_eq_true (by omega), show m + 2 + 1 - 2 = m + 1 by omega]
                  exact HInv2.out), by simp; omega, ?_, ?_, HR6.out, HP6.out, by (first | ((repeat' first | (with_reducible (first | exact Below.refl _ _ | assumption | refine Below.setCell ?_ ?_ _ | refine Below.alloc ?_ ?_ _ | refine Below.drew ?_ | refine below_drewN ?_ _ | refine Below.trans ?_ (Below.mono (by assumption) ?_))) | omega | (simp; omega) | (simp; done)); done) | (repeat' first | exact Below.refl _ _ | assumption | refine Below.setCell ?_ (by first | omega | (simp; omega) | (simp; done)) _ | refine Below.alloc ?_ (by first | omega | (simp; omega) | (simp; done)) _ | refine Below.drew ?_ | refine below_drewN ?_ _ | refine Below.trans ?_ (Below.mono (by assumption) (by first | omega | (simp; omega) | (simp; done)))))⟩
                · rw [List.map_append, List.length_append]
                  exact HW7.out
                · rw [List.length_append]
                  exact HX6.out
              case measure => simp [intOf]; omega
    · obtain rfl : k = N := by omega
      obtain ⟨_, a0, a1, af, az⟩ := own2 (g := X) (Below.refl _ wr) (by omega) HX.out
      have HRd := Lib.hid HW.out.rd
      go_wp2_with fail
      refine (i_PostingText z L _ _ _ (HLD.out.below hbw).toLd (by omega) HRd.out).mono ?_
      rintro e w3 ⟨rfl, hb3⟩
      have z3 := hb3.size
      obtain ⟨t, ht', ht⟩ := str_of (postingL z L)
      rw [ht']
      clear ht'
      have hX3 := heap_below hb3 hXl HX.out
      have hR3 := heap_below hb3 hRl HR.out
      have HW3 := Lib.hid (HW.out.below hb3)
      obtain ⟨_, b0, b1, bf, bz⟩ := own2 (g := X) (Below.refl _ w3) (by omega) hX3
      obtain ⟨_, r0, r1, rf, rz⟩ := own2 (g := w.heap.size) (Below.refl _ w3) (by omega) hR3
      have NR := Lib.hid (HW3.out.ne_ hR3 (by decide))
      have hbB : Below w.heap.size w w3 := by (first | ((repeat' first | (with_reducible (first | exact Below.refl _ _ | assumption | refine Below.setCell ?_ ?_ _ | refine Below.alloc ?_ ?_ _ | refine Below.drew ?_ | refine below_drewN ?_ _ | refine Below.trans ?_ (Below.mono (by assumption) ?_))) | omega | (simp; omega) | (simp; done)); done) | (repeat' first | exact Below.refl _ _ | assumption | refine Below.setCell ?_ (by first | omega | (simp; omega) | (simp; done)) _ | refine Below.alloc ?_ (by first | omega | (simp; omega) | (simp; done)) _ | refine Below.drew ?_ | refine below_drewN ?_ _ | refine Below.trans ?_ (Below.mono (by assumption) (by first | omega | (simp; omega) | (simp; done)))))
      have HMiss := Lib.hid (show postingL z L ≠ s.data.toList → LedIs postingB postingL s.data.toList 0 [] false from fun h => by
        by_cases hd : 2 ≤ k
        · have hI := HInv.out
          rw [decide_eq_true hd] at hI
          exact hI.miss (fun z' l' h1 h2 => by have := HCnt.out z' l' h1 h2; omega) h
        · exact led_none (fun z' l' h1 h2 => by have := HCnt.out z' l' h1 h2; omega))
      clear hb3 hX3 hR3 a0 a1 af
      by_cases he : t = ⟨#[]⟩
      · have HN : Hid (LedIs postingB postingL s.data.toList 0 [] false) := Lib.hid (by
          by_cases hse : postingL z L = s.data.toList
          · refine led_none (fun z' l' h1 h2 => ?_)
            have h3 := ht.out.data
            rw [he] at h3
            rw [← hse, ← h3] at h2
            exact post_text_ne h1 h2
          · exact HMiss.out hse)
        subst he
        go_wp2_with fail
        refine bodyPost_ret (v := .tuple #[.agg #[.int .i64 0, .slice none 0 0], .bool false]) (by simp [results, Tryz.results24, go_sem, *]) rfl ⟨0, [], none, 0, false, rfl, Ow.nil_, HN.out, ?_⟩
        (first | ((repeat' first | (with_reducible (first | exact Below.refl _ _ | assumption | refine Below.setCell ?_ ?_ _ | refine Below.alloc ?_ ?_ _ | refine Below.drew ?_ | refine below_drewN ?_ _ | refine Below.trans ?_ (Below.mono (by assumption) ?_))) | omega | (simp; omega) | (simp; done)); done) | (repeat' first | exact Below.refl _ _ | assumption | refine Below.setCell ?_ (by first | omega | (simp; omega) | (simp; done)) _ | refine Below.alloc ?_ (by first | omega | (simp; omega) | (simp; done)) _ | refine Below.drew ?_ | refine below_drewN ?_ _ | refine Below.trans ?_ (Below.mono (by assumption) (by first | omega | (simp; omega) | (simp; done)))))
      · have hne := neq_str he
        have hne1 : t.toList.isEmpty = false := by
          have h := neq_str he
          cases hx : t.toList with
          | nil => rw [hx] at h; simp at h
          | cons a r => rfl
        have hne2 : postingL z L ≠ [] := fun h => he (by
          have := ht.out
          unfold Str at this
          rw [this, h])
        have HNE := Lib.hid hne2
        clear hne hne2
        by_cases et : t = s
        · have HN := Lib.hid (post_hit (s := s.data.toList) (z := z) (L := L) (by rw [← eq_str ht.out et]; exact HNE.out) (eq_str ht.out et))
          have HWR := Lib.hid (HW3.out.apart2 (X := w.heap.size) NR.out (.int .i64 z) (.slice Bk L.length cp))
          subst et
          clear he
          go_wp2_with fail
          refine bodyPost_ret (v := .tuple #[.agg #[.int .i64 z, .slice Bk L.length cp], .bool true]) (by simp [results, Tryz.results24, go_sem, *]) rfl ⟨z, L, Bk, cp, true, rfl, ?_, HN.out, ?_⟩
          · exact HWR.out.more (by omega)
          · (first | ((repeat' first | (with_reducible (first | exact Below.refl _ _ | assumption | refine Below.setCell ?_ ?_ _ | refine Below.alloc ?_ ?_ _ | refine Below.drew ?_ | refine below_drewN ?_ _ | refine Below.trans ?_ (Below.mono (by assumption) ?_))) | omega | (simp; omega) | (simp; done)); done) | (repeat' first | exact Below.refl _ _ | assumption | refine Below.setCell ?_ (by first | omega | (simp; omega) | (simp; done)) _ | refine Below.alloc ?_ (by first | omega | (simp; omega) | (simp; done)) _ | refine Below.drew ?_ | refine below_drewN ?_ _ | refine Below.trans ?_ (Below.mono (by assumption) (by first | omega | (simp; omega) | (simp; done)))))
        · have HN := Lib.hid (HMiss.out (ne_str ht.out et))
          have hneq := neq_str et
          clear et he
          go_wp2_with fail
          refine bodyPost_ret (v := .tuple #[.agg #[.int .i64 0, .slice none 0 0], .bool false]) (by simp [results, Tryz.results24, go_sem, *]) rfl ⟨0, [], none, 0, false, rfl, Ow.nil_, HN.out, ?_⟩
          (first | ((repeat' first | (with_reducible (first | exact Below.refl _ _ | assumption | refine Below.setCell ?_ ?_ _ | refine Below.alloc ?_ ?_ _ | refine Below.drew ?_ | refine below_drewN ?_ _ | refine Below.trans ?_ (Below.mono (by assumption) ?_))) | omega | (simp; omega) | (simp; done)); done) | (repeat' first | exact Below.refl _ _ | assumption | refine Below.setCell ?_ (by first | omega | (simp; omega) | (simp; done)) _ | refine Below.alloc ?_ (by first | omega | (simp; omega) | (simp; done)) _ | refine Below.drew ?_ | refine below_drewN ?_ _ | refine Below.trans ?_ (Below.mono (by assumption) (by first | omega | (simp; omega) | (simp; done)))))
end Go.Proofs.YtgpledgjpjifcaaGreatDoor

namespace Go.Proofs.YtgpledgjpjifcaaGreatDoor
open Go.RowKit

theorem neq_line (w : World) (a b c : Int) : (binOp .neq 84 (.agg #[.int .i64 a, .int .i64 b, .int .i64 c]) (.agg #[.int .i64 a, .int .i64 b, .int .i64 c])).run Tryz.prog w = .ok (.bool false) w := by
  rw [run_neq_struct, show (10000 : Nat) = 9999 + 1 from rfl, run_equalIn_struct w 9999 _ _ _ (by kernel_rfl) (by kernel_rfl)]
  simp [go_sem, Tryz.underlying84, Tryz.underlying82, Tryz.underlying3]
set_option maxRecDepth 100000 in
set_option maxHeartbeats 1000000 in
theorem l_sameLines (l : List Line) (A1 A2 : Option Addr) (cap1 cap2 : Nat) (w : World) (hl : l.length ≤ 1048576) (hr1 : Rd w w.heap.size 3 A1 (l.map Line.cells)) (hr2 : Rd w w.heap.size 3 A2 (l.map Line.cells)) :
    Calls Tryz.prog 25 #[.slice A1 l.length cap1, .slice A2 l.length cap2] w fun e w' => e = .returned (.bool true) ∧ Below w.heap.size w w' := by
  have HR1 := Lib.hid hr1
  have HR2 := Lib.hid hr2
  clear hr1 hr2
  go_enter Tryz.func25, Tryz.ntmps25
  go_wp2_with fail
  go_loopw [13] (fun i wr => ∃ k : Nat, k ≤ l.length ∧ i = .int .i64 k ∧ Below w.heap.size w wr) (fun i _ => l.length - (intOf i).toNat)
  case atStart => exact ⟨0, Nat.zero_le _, rfl, Below.refl _ _⟩
  case round =>
    obtain ⟨k, hk, rfl, hbw⟩ := hrel
    have hbz := hbw.size
    by_cases hlt : k < l.length
    · obtain ⟨b, off, rfl, hbB, c0, c1, c2⟩ := Line.rd (HR1.out.below hbw) hlt
      obtain ⟨b', off', rfl, hbB', d0, d1, d2⟩ := Line.rd (HR2.out.below hbw) hlt
      have hq := fun W => neq_line W l[k].Kind l[k].Ch l[k].Amt
      have i1 : (0 : Int) ≤ (k : Int) := by omega
      have i2 : (k : Int) < (l.length : Int) := by omega
      go_wp2_with fail
      go_region
      all_goals go_wp2_with fail
      go_roundw
      case rel => exact ⟨k + 1, by omega, by go_num, by (first | ((repeat' first | (with_reducible (first | exact Below.refl _ _ | assumption | refine Below.setCell ?_ ?_ _ | refine Below.alloc ?_ ?_ _ | refine Below.drew ?_ | refine below_drewN ?_ _ | refine Below.trans ?_ (Below.mono (by assumption) ?_))) | omega | (simp; omega) | (simp; done)); done) | (repeat' first | exact Below.refl _ _ | assumption | refine Below.setCell ?_ (by first | omega | (simp; omega) | (simp; done)) _ | refine Below.alloc ?_ (by first | omega | (simp; omega) | (simp; done)) _ | refine Below.drew ?_ | refine below_drewN ?_ _ | refine Below.trans ?_ (Below.mono (by assumption) (by first | omega | (simp; omega) | (simp; done)))))⟩
      case measure => simp [intOf]; omega
    · obtain rfl : k = l.length := by omega
      go_wp2_with fail
      go_ret
      exact ⟨rfl, hbw⟩
end Go.Proofs.YtgpledgjpjifcaaGreatDoor

namespace Go.Proofs.YtgpledgjpjifcaaGreatDoor
open Go.ChangeShapes Go.WideShapes Go.ChangeAt Go.RowKit

theorem debtL_ne {d : Debt} (h : debtOk d = true) : debtL d ≠ [] := fun e => by
  have := debt_parts h
  rw [e] at this
  simp [parts] at this
theorem debt_back {d d' : Debt} {ok : Bool} (h : DebtIs (debtL d) d' ok) : ok = debtOk d ∧ (ok = true → d' = d) := by
  cases hd : debtOk d with
  | true =>
    obtain ⟨rfl, rfl⟩ := h.one (Or.inl ⟨rfl, hd, rfl⟩)
    exact ⟨rfl, fun _ => rfl⟩
  | false =>
    rcases h with ⟨rfl, h1, h2⟩ | ⟨rfl, _, _⟩
    · exfalso
      refine debtL_ne h1 ?_
      rw [h2]
      unfold debtL
      rw [hd]
      rfl
    · exact ⟨rfl, fun e => by cases e⟩
theorem led_back {z z' : Int} {l l' : List Line} {ok : Bool} (h : LedIs ledgerB ledgerL (ledgerL z l) z' l' ok) : ok = ledgerB z l ∧ (ok = true → z' = z ∧ l' = l) := by
  cases hd : ledgerB z l with
  | true =>
    obtain ⟨rfl, rfl, rfl⟩ := LedIs.one ledgerL_inj h (Or.inl ⟨rfl, hd, rfl⟩)
    exact ⟨rfl, fun _ => ⟨rfl, rfl⟩⟩
  | false =>
    rcases h with ⟨rfl, h1, h2⟩ | ⟨rfl, _, _, _⟩
    · exfalso
      refine led_text_ne h1 ?_
      rw [h2]
      unfold ledgerL
      rw [hd]
      rfl
    · exact ⟨rfl, fun e => by cases e⟩
theorem post_back {z z' : Int} {l l' : List Line} {ok : Bool} (h : LedIs postingB postingL (postingL z l) z' l' ok) : ok = postingB z l ∧ (ok = true → z' = z ∧ l' = l) := by
  cases hd : postingB z l with
  | true =>
    obtain ⟨rfl, rfl, rfl⟩ := LedIs.one postingL_inj h (Or.inl ⟨rfl, hd, rfl⟩)
    exact ⟨rfl, fun _ => ⟨rfl, rfl⟩⟩
  | false =>
    rcases h with ⟨rfl, h1, h2⟩ | ⟨rfl, _, _, _⟩
    · exfalso
      refine post_text_ne h1 ?_
      rw [h2]
      unfold postingL
      rw [hd]
      rfl
    · exact ⟨rfl, fun e => by cases e⟩
theorem empty_of {s : ByteArray} {l : List UInt8} {b : Bool} (hs : Str l s) (h1 : b = true → l ≠ []) (h2 : b = false → l = []) : s.toList.isEmpty = !b := by
  cases b with
  | true =>
    have hne : s ≠ ⟨#[]⟩ := fun e => h1 rfl (by
      have := hs.data
      rw [e] at this
      rw [← this])
    have h := neq_str hne
    cases hx : s.toList with
    | nil => rw [hx] at h; simp at h
    | cons a r => rfl
  | false =>
    have : s = ⟨#[]⟩ := by
      rw [hs, h2 rfl]
    rw [this]
    simp
theorem eql_debt (w : World) (a b c : Int) : (binOp .eql 38 (.agg #[.int .i64 a, .int .i64 b, .int .i64 c]) (.agg #[.int .i64 a, .int .i64 b, .int .i64 c])).run Tryz.prog w = .ok (.bool true) w := by
  rw [run_eql_struct, show (10000 : Nat) = 9999 + 1 from rfl, run_equalIn_struct w 9999 _ _ _ (by kernel_rfl) (by kernel_rfl)]
  simp [go_sem, Tryz.underlying38, Tryz.underlying3]
theorem text_small {l : List UInt8} {s : ByteArray} (h : Str l s) (hl : l.length ≤ 1048576) : s.size ≤ 1048576 := by
  rw [h.size]
  exact hl
theorem debtL_len (d : Debt) : (debtL d).length ≤ 100 := by
  have h1 := numL_len d.From
  have h2 := numL_len d.To
  have h3 := numL_len d.Amt
  unfold debtL
  split
  · simp
    omega
  · simp
theorem ledgerL_len (z : Int) (l : List Line) : (ledgerL z l).length ≤ 20000 := by
  unfold ledgerL
  split
  · rename_i h
    have h1 := ledTo_len z l
    have h2 := led_short h
    omega
  · simp
theorem postingL_len (z : Int) (l : List Line) : (postingL z l).length ≤ 20000 := by
  unfold postingL
  split
  · rename_i h
    have h1 := postTo_len z l
    have h2 := post_short h
    omega
  · simp
set_option maxRecDepth 100000 in
set_option maxHeartbeats 4000000 in
theorem l_FnDebt (A : Option Addr) (n cap : Nat) (w : World) (hld : Le w) (hc : CodeIn w A n cap) :
    Calls Tryz.prog 4 #[.slice A n cap] w fun e w' => e = .returned (.bool true) ∧ Below w.heap.size w w' := by
  have hnm := hc.len
  unfold maxLen at hnm
  have HLD := Lib.hid hld
  clear hld
  by_cases hn : n ≤ 1048576
  · have HC := Lib.hid (hc.code hn)
    clear hc
    go_enter Tryz.func4, Tryz.ntmps4
    go_wp2_with fail
    refine (s_DrawDebtText A n cap _ HC.out).mono ?_
    rintro e w1 ⟨⟨d0, d1, d2⟩, rfl, hb1⟩
    have z1 := hb1.size
    go_wp2_with fail
    obtain ⟨W1, hW1⟩ : ∃ W : World, w1.alloc (.cells #[.int .i64 d0, .int .i64 d1, .int .i64 d2] 38) = W := ⟨_, rfl⟩
    obtain ⟨B1, hB1⟩ : ∃ B, w1.heap.size = B := ⟨_, rfl⟩
    have X1 := Lib.hid (show W1.heap[B1]? = some (.cells #[.int .i64 d0, .int .i64 d1, .int .i64 d2] 38 (0, 0)) by rw [← hW1, ← hB1]; exact heap_at rfl)
    have BW1 : Below w.heap.size w W1 := by rw [← hW1]; exact hb1.alloc z1 _
    have zW1 : B1 < W1.heap.size := by rw [← hW1, ← hB1]; simp
    rw [hW1, hB1]
    clear hb1 hW1 hB1 z1
    have zW1' := BW1.size
    refine (s_DrawLedgerText A n cap _ ((HC.out.below BW1).more zW1')).mono ?_
    rintro e w2 ⟨z, L, A2, cap2, rfl, hL, hrL, hb2⟩
    have z2 := hb2.size
    go_wp2_with fail
    obtain ⟨W2, hW2⟩ : ∃ W : World, w2.alloc (.cells #[.int .i64 z, .slice A2 L.length cap2] 42) = W := ⟨_, rfl⟩
    obtain ⟨B2, hB2⟩ : ∃ B, w2.heap.size = B := ⟨_, rfl⟩
    have X2 := Lib.hid (show W2.heap[B2]? = some (.cells #[.int .i64 z, .slice A2 L.length cap2] 42 (0, 0)) by rw [← hW2, ← hB2]; exact heap_at rfl)
    have BW2 : Below W1.heap.size W1 W2 := by rw [← hW2]; exact hb2.alloc z2 _
    have zW2 : B2 < W2.heap.size := by rw [← hW2, ← hB2]; simp
    have HRL := Lib.hid (show Rd W2 W2.heap.size 3 A2 (L.map Line.cells) by rw [← hW2]; exact (hrL.below ((Below.refl _ _).alloc (Nat.le_refl _) _)).more (by simp))
    rw [hW2, hB2]
    clear hb2 hW2 hB2 z2 hrL
    have zW2' := BW2.size
    have X1b := Lib.hid (heap_below BW2 zW1 X1.out)
    have BWb : Below w.heap.size w W2 := BW1.trans (BW2.mono zW1')
    refine (s_DrawPostingText A n cap _ ((HC.out.below BWb).more (by omega))).mono ?_
    rintro e w3 ⟨y, M, A3, cap3, rfl, hM, hrM, hb3⟩
    have z3 := hb3.size
    obtain ⟨W, hW⟩ : ∃ W : World, w3.alloc (.cells #[.int .i64 y, .slice A3 M.length cap3] 45) = W := ⟨_, rfl⟩
    obtain ⟨B3, hB3⟩ : ∃ B, w3.heap.size = B := ⟨_, rfl⟩
    have X3 := Lib.hid (show W.heap[B3]? = some (.cells #[.int .i64 y, .slice A3 M.length cap3] 45 (0, 0)) by rw [← hW, ← hB3]; exact heap_at rfl)
    have BW3 : Below W2.heap.size W2 W := by rw [← hW]; exact hb3.alloc z3 _
    have zW3 : B3 < W.heap.size := by rw [← hW, ← hB3]; simp
    have HRP := Lib.hid (show Rd W W.heap.size 3 A3 (M.map Line.cells) by rw [← hW]; exact (hrM.below ((Below.refl _ _).alloc (Nat.le_refl _) _)).more (by simp))
    have zW3' := BW3.size
    have HRL2 := Lib.hid ((HRL.out.below BW3).more zW3')
    have X1c := Lib.hid (heap_below BW3 (by omega) X1b.out)
    have X2b := Lib.hid (heap_below BW3 zW2 X2.out)
    have BW : Below w.heap.size w W := BWb.trans (BW3.mono (by omega))
    obtain ⟨_, q0, q1, q2, qf, qz⟩ := own3 (g := B1) (Below.refl _ W) (by omega) X1c.out
    clear hb3 hrM HRL X1 X1b X2 BWb BW1 BW2 BW3
    go_wp2_with fail
    clear hW hB3
    have hz4 := BW.size
    have hqW : B1 < W.heap.size := by omega
    have hqW2 : B2 < W.heap.size := by omega
    have HLW := Lib.hid (HLD.out.below BW)
    refine (i_DebtText d0 d1 d2 _ HLW.out.toLd).mono ?_
    rintro e w4 ⟨rfl, hb4⟩
    have z4 := hb4.size
    obtain ⟨S, hS', hS⟩ := str_of (debtL ⟨d0, d1, d2⟩)
    have HSE := Lib.hid hS'
    rw [hS']
    clear hS' q0 q1 q2 qf qz
    obtain ⟨_, q0, q1, qf, qz⟩ := own2 (g := B2) hb4 hqW2 X2b.out
    go_wp2_with fail
    refine (i_LedgerText z L _ _ _ (HLW.out.below hb4).toLd (by omega) ((HRL2.out.below hb4).more z4)).mono ?_
    rintro e w5 ⟨rfl, hb5⟩
    have z5 := hb5.size
    have hc5 : Below W.heap.size W w5 := hb4.trans (hb5.mono z4)
    obtain ⟨T, hT', hT⟩ := str_of (ledgerL z L)
    have HTE := Lib.hid hT'
    rw [hT']
    clear hT' q0 q1 qf qz hb4 hb5
    obtain ⟨_, q0, q1, qf, qz⟩ := own2 (g := B3) hc5 zW3 X3.out
    go_wp2_with fail
    refine (i_PostingText y M _ _ _ (HLW.out.below hc5).toLd (by omega) ((HRP.out.below hc5).more hc5.size)).mono ?_
    rintro e w6 ⟨rfl, hb6⟩
    have z6 := hb6.size
    have hc6 : Below W.heap.size W w6 := hc5.trans (hb6.mono hc5.size)
    obtain ⟨U, hU', hU⟩ := str_of (postingL y M)
    have HUE := Lib.hid hU'
    rw [hU']
    clear hU' q0 q1 qf qz hc5 hb6
    obtain ⟨_, q0, q1, q2, qf, qz⟩ := own3 (g := B1) hc6 hqW X1c.out
    go_wp2_with fail
    refine (s_DebtText d0 d1 d2 _).mono ?_
    rintro e w7 ⟨rfl, hb7⟩
    have z7 := hb7.size
    have hc7 : Below W.heap.size W w7 := hc6.trans (hb7.mono hc6.size)
    rw [HSE.out]
    clear q0 q1 q2 qf qz hc6 hb7
    obtain ⟨_, q0, q1, qf, qz⟩ := own2 (g := B2) hc7 hqW2 X2b.out
    go_wp2_with fail
    refine (s_LedgerText z L _ _ _ (by omega) ((HRL2.out.below hc7).more hc7.size)).mono ?_
    rintro e w8 ⟨rfl, hb8⟩
    have z8 := hb8.size
    have hc8 : Below W.heap.size W w8 := hc7.trans (hb8.mono hc7.size)
    rw [HTE.out]
    clear q0 q1 qf qz hc7 hb8
    obtain ⟨_, q0, q1, qf, qz⟩ := own2 (g := B3) hc8 zW3 X3.out
    go_wp2_with fail
    refine (s_PostingText y M _ _ _ (by omega) ((HRP.out.below hc8).more hc8.size)).mono ?_
    rintro e w9 ⟨rfl, hb9⟩
    have z9 := hb9.size
    have hc9 : Below W.heap.size W w9 := hc8.trans (hb9.mono hc8.size)
    rw [HUE.out]
    clear q0 q1 qf qz hc8 hb9
    go_wp2_with fail
    refine (i_TextDebt S _ (HLW.out.below hc9) (text_small hS.out (Nat.le_trans (debtL_len _) (by decide)))).mono ?_
    rintro e w10 ⟨⟨a0, a1, a2⟩, f, rfl, hdf, hb10⟩
    have z10 := hb10.size
    have hc10 : Below W.heap.size W w10 := hc9.trans (hb10.mono hc9.size)
    have HF := Lib.hid (debt_back (by have := hdf; rwa [hS.out.data] at this))
    clear hdf hc9 hb10
    go_wp2_with fail
    obtain ⟨V1, hV1⟩ : ∃ V : World, w10.alloc (.cells #[.int .i64 a0, .int .i64 a1, .int .i64 a2] 38) = V := ⟨_, rfl⟩
    obtain ⟨C1, hC1⟩ : ∃ B, w10.heap.size = B := ⟨_, rfl⟩
    have Y1 := Lib.hid (show V1.heap[C1]? = some (.cells #[.int .i64 a0, .int .i64 a1, .int .i64 a2] 38 (0, 0)) by rw [← hV1, ← hC1]; exact heap_at rfl)
    have cV1 : Below W.heap.size W V1 := by rw [← hV1]; exact hc10.alloc hc10.size _
    have zV1 : C1 < V1.heap.size := by rw [← hV1, ← hC1]; simp
    rw [hV1, hC1]
    clear hV1 hC1 hc10 z10
    refine (i_TextLedger T _ (HLW.out.below cV1) (text_small hT.out (Nat.le_trans (ledgerL_len _ _) (by decide)))).mono ?_
    rintro e w11 ⟨z', L', A4, cap4, g, rfl, how11, hdg, hb11⟩
    have z11 := hb11.size
    have hr11 := how11.rd
    have HG := Lib.hid (led_back (by have := hdg; rwa [hT.out.data] at this))
    clear hdg how11
    go_wp2_with fail
    obtain ⟨V2, hV2⟩ : ∃ V : World, w11.alloc (.cells #[.int .i64 z', .slice A4 L'.length cap4] 42) = V := ⟨_, rfl⟩
    obtain ⟨C2, hC2⟩ : ∃ B, w11.heap.size = B := ⟨_, rfl⟩
    have Y2 := Lib.hid (show V2.heap[C2]? = some (.cells #[.int .i64 z', .slice A4 L'.length cap4] 42 (0, 0)) by rw [← hV2, ← hC2]; exact heap_at rfl)
    have bV2 : Below V1.heap.size V1 V2 := by rw [← hV2]; exact hb11.alloc z11 _
    have zV2 : C2 < V2.heap.size := by rw [← hV2, ← hC2]; simp
    have HR4 := Lib.hid (show Rd V2 V2.heap.size 3 A4 (L'.map Line.cells) by rw [← hV2]; exact (hr11.below ((Below.refl _ _).alloc (Nat.le_refl _) _)).more (by simp))
    rw [hV2, hC2]
    clear hV2 hC2 hb11 z11 hr11
    have zV2' := bV2.size
    have cV2 : Below W.heap.size W V2 := cV1.trans (bV2.mono cV1.size)
    have Y1b := Lib.hid (heap_below bV2 zV1 Y1.out)
    clear bV2 Y1
    refine (i_TextPosting U _ (HLW.out.below cV2) (text_small hU.out (Nat.le_trans (postingL_len _ _) (by decide)))).mono ?_
    rintro e w12 ⟨y', M', A5, cap5, h, rfl, how12, hdh, hb12⟩
    have z12 := hb12.size
    have hr12 := how12.rd
    have HH := Lib.hid (post_back (by have := hdh; rwa [hU.out.data] at this))
    clear hdh how12
    have eS := empty_of hS.out (b := debtOk ⟨d0, d1, d2⟩) debtL_ne (fun h => by unfold debtL; rw [h]; rfl)
    have eT := empty_of hT.out (b := ledgerB z L) led_text_ne (fun h => by unfold ledgerL; rw [h]; rfl)
    have eU := empty_of hU.out (b := postingB y M) post_text_ne (fun h => by unfold postingL; rw [h]; rfl)
    rw [← HF.out.1] at eS
    rw [← HG.out.1] at eT
    rw [← HH.out.1] at eU
    have HF2 := Lib.hid HF.out.2
    have HG2 := Lib.hid HG.out.2
    have HH2 := Lib.hid HH.out.2
    clear HF HG HH
    obtain ⟨V, hV⟩ : ∃ V : World, w12.alloc (.cells #[.int .i64 y', .slice A5 M'.length cap5] 45) = V := ⟨_, rfl⟩
    obtain ⟨C3, hC3⟩ : ∃ B, w12.heap.size = B := ⟨_, rfl⟩
    have Y3 := Lib.hid (show V.heap[C3]? = some (.cells #[.int .i64 y', .slice A5 M'.length cap5] 45 (0, 0)) by rw [← hV, ← hC3]; exact heap_at rfl)
    have bV : Below V2.heap.size V2 V := by rw [← hV]; exact hb12.alloc z12 _
    have zV3 : C3 < V.heap.size := by rw [← hV, ← hC3]; simp
    have HR5 := Lib.hid (show Rd V V.heap.size 3 A5 (M'.map Line.cells) by rw [← hV]; exact (hr12.below ((Below.refl _ _).alloc (Nat.le_refl _) _)).more (by simp))
    have zV' := bV.size
    have cV : Below W.heap.size W V := cV2.trans (bV.mono cV2.size)
    have Y1c := Lib.hid (heap_below bV (by omega) Y1b.out)
    have Y2b := Lib.hid (heap_below bV zV2 Y2.out)
    have HR4b := Lib.hid ((HR4.out.below bV).more zV')
    have X1d := Lib.hid (heap_below cV hqW X1c.out)
    have X2d := Lib.hid (heap_below cV hqW2 X2b.out)
    have X3d := Lib.hid (heap_below cV zW3 X3.out)
    have HRL3 := Lib.hid ((HRL2.out.below cV).more cV.size)
    have HRP3 := Lib.hid ((HRP.out.below cV).more cV.size)
    have BV : Below w.heap.size w V := BW.trans (cV.mono BW.size)
    have hcz := cV.size
    clear bV hb12 z12 hr12 Y1b Y2 HR4 X1c X2b X3 HRL2 HRP BW cV cV2 cV1 zV1 zV2 zV2' HLD HC
    have hl1 : B1 < V.heap.size := by omega
    have hl2 : B2 < V.heap.size := by omega
    have hl3 : B3 < V.heap.size := by omega
    have hl4 := (Array.getElem?_eq_some_iff.1 Y1c.out).1
    have hl5 := (Array.getElem?_eq_some_iff.1 Y2b.out).1
    clear zW1 zW1' zW2 zW2' zW3 zW3' hz4 z4 z5 z6 z7 z8 z9 hqW hqW2 zV'
    cases f
    · cases g
      · cases h
        · have hcase : True := trivial
          have hb0 : Below V.heap.size V V := Below.refl _ _
          obtain ⟨_, ka0, ka1, ka2, kaf, kaz⟩ := own3 (g := B1) hb0 hl1 X1d.out
          obtain ⟨_, kb0, kb1, kbf, kbz⟩ := own2 (g := B2) hb0 hl2 X2d.out
          obtain ⟨_, kc0, kc1, kcf, kcz⟩ := own2 (g := B3) hb0 hl3 X3d.out
          obtain ⟨_, kd0, kd1, kd2, kdf, kdz⟩ := own3 (g := C1) hb0 hl4 Y1c.out
          obtain ⟨_, ke0, ke1, kef, kez⟩ := own2 (g := C2) hb0 hl5 Y2b.out
          obtain ⟨_, kf0, kf1, kff, kfz⟩ := own2 (g := C3) hb0 zV3 Y3.out
          go_wp2_with fail
          clear hV hC3
          go_ret
          exact ⟨rfl, BV.trans (hb0.mono BV.size)⟩
        · have hcase : True := trivial
          obtain ⟨rfl, rfl⟩ := HH2.out rfl
          have hb0 : Below V.heap.size V V := Below.refl _ _
          obtain ⟨_, ka0, ka1, ka2, kaf, kaz⟩ := own3 (g := B1) hb0 hl1 X1d.out
          obtain ⟨_, kb0, kb1, kbf, kbz⟩ := own2 (g := B2) hb0 hl2 X2d.out
          obtain ⟨_, kc0, kc1, kcf, kcz⟩ := own2 (g := B3) hb0 hl3 X3d.out
          obtain ⟨_, kd0, kd1, kd2, kdf, kdz⟩ := own3 (g := C1) hb0 hl4 Y1c.out
          obtain ⟨_, ke0, ke1, kef, kez⟩ := own2 (g := C2) hb0 hl5 Y2b.out
          obtain ⟨_, kf0, kf1, kff, kfz⟩ := own2 (g := C3) hb0 zV3 Y3.out
          go_wp2_with fail
          clear hV hC3
          refine (l_sameLines M' _ _ _ _ _ (by omega) ((HR5.out.below hb0).more hb0.size) ((HRP3.out.below hb0).more hb0.size)).mono ?_
          rintro e w14 ⟨rfl, hb14⟩
          have hc14 := hb0.trans (hb14.mono hb0.size)
          obtain ⟨_, na0, na1, na2, naf, naz⟩ := own3 (g := B1) hc14 hl1 X1d.out
          obtain ⟨_, nb0, nb1, nbf, nbz⟩ := own2 (g := B2) hc14 hl2 X2d.out
          obtain ⟨_, nc0, nc1, ncf, ncz⟩ := own2 (g := B3) hc14 hl3 X3d.out
          obtain ⟨_, nd0, nd1, nd2, ndf, ndz⟩ := own3 (g := C1) hc14 hl4 Y1c.out
          obtain ⟨_, ne0, ne1, nef, nez⟩ := own2 (g := C2) hc14 hl5 Y2b.out
          obtain ⟨_, nf0, nf1, nff, nfz⟩ := own2 (g := C3) hc14 zV3 Y3.out
          go_wp2_with fail
          go_ret
          exact ⟨rfl, BV.trans (hc14.mono BV.size)⟩
      · cases h
        · have hcase : True := trivial
          obtain ⟨rfl, rfl⟩ := HG2.out rfl
          have hb0 : Below V.heap.size V V := Below.refl _ _
          obtain ⟨_, ka0, ka1, ka2, kaf, kaz⟩ := own3 (g := B1) hb0 hl1 X1d.out
          obtain ⟨_, kb0, kb1, kbf, kbz⟩ := own2 (g := B2) hb0 hl2 X2d.out
          obtain ⟨_, kc0, kc1, kcf, kcz⟩ := own2 (g := B3) hb0 hl3 X3d.out
          obtain ⟨_, kd0, kd1, kd2, kdf, kdz⟩ := own3 (g := C1) hb0 hl4 Y1c.out
          obtain ⟨_, ke0, ke1, kef, kez⟩ := own2 (g := C2) hb0 hl5 Y2b.out
          obtain ⟨_, kf0, kf1, kff, kfz⟩ := own2 (g := C3) hb0 zV3 Y3.out
          go_wp2_with fail
          clear hV hC3
          refine (l_sameLines L' _ _ _ _ _ (by omega) HR4b.out HRL3.out).mono ?_
          rintro e w13 ⟨rfl, hb13⟩
          have z13 := hb13.size
          obtain ⟨_, ma0, ma1, ma2, maf, maz⟩ := own3 (g := B1) hb13 hl1 X1d.out
          obtain ⟨_, mb0, mb1, mbf, mbz⟩ := own2 (g := B2) hb13 hl2 X2d.out
          obtain ⟨_, mc0, mc1, mcf, mcz⟩ := own2 (g := B3) hb13 hl3 X3d.out
          obtain ⟨_, md0, md1, md2, mdf, mdz⟩ := own3 (g := C1) hb13 hl4 Y1c.out
          obtain ⟨_, me0, me1, mef, mez⟩ := own2 (g := C2) hb13 hl5 Y2b.out
          obtain ⟨_, mf0, mf1, mff, mfz⟩ := own2 (g := C3) hb13 zV3 Y3.out
          go_wp2_with fail
          go_ret
          exact ⟨rfl, BV.trans (hb13.mono BV.size)⟩
        · have hcase : True := trivial
          obtain ⟨rfl, rfl⟩ := HG2.out rfl
          obtain ⟨rfl, rfl⟩ := HH2.out rfl
          have hb0 : Below V.heap.size V V := Below.refl _ _
          obtain ⟨_, ka0, ka1, ka2, kaf, kaz⟩ := own3 (g := B1) hb0 hl1 X1d.out
          obtain ⟨_, kb0, kb1, kbf, kbz⟩ := own2 (g := B2) hb0 hl2 X2d.out
          obtain ⟨_, kc0, kc1, kcf, kcz⟩ := own2 (g := B3) hb0 hl3 X3d.out
          obtain ⟨_, kd0, kd1, kd2, kdf, kdz⟩ := own3 (g := C1) hb0 hl4 Y1c.out
          obtain ⟨_, ke0, ke1, kef, kez⟩ := own2 (g := C2) hb0 hl5 Y2b.out
          obtain ⟨_, kf0, kf1, kff, kfz⟩ := own2 (g := C3) hb0 zV3 Y3.out
          go_wp2_with fail
          clear hV hC3
          refine (l_sameLines L' _ _ _ _ _ (by omega) HR4b.out HRL3.out).mono ?_
          rintro e w13 ⟨rfl, hb13⟩
          have z13 := hb13.size
          obtain ⟨_, ma0, ma1, ma2, maf, maz⟩ := own3 (g := B1) hb13 hl1 X1d.out
          obtain ⟨_, mb0, mb1, mbf, mbz⟩ := own2 (g := B2) hb13 hl2 X2d.out
          obtain ⟨_, mc0, mc1, mcf, mcz⟩ := own2 (g := B3) hb13 hl3 X3d.out
          obtain ⟨_, md0, md1, md2, mdf, mdz⟩ := own3 (g := C1) hb13 hl4 Y1c.out
          obtain ⟨_, me0, me1, mef, mez⟩ := own2 (g := C2) hb13 hl5 Y2b.out
          obtain ⟨_, mf0, mf1, mff, mfz⟩ := own2 (g := C3) hb13 zV3 Y3.out
          go_wp2_with fail
          refine (l_sameLines M' _ _ _ _ _ (by omega) ((HR5.out.below hb13).more hb13.size) ((HRP3.out.below hb13).more hb13.size)).mono ?_
          rintro e w14 ⟨rfl, hb14⟩
          have hc14 := hb13.trans (hb14.mono hb13.size)
          obtain ⟨_, na0, na1, na2, naf, naz⟩ := own3 (g := B1) hc14 hl1 X1d.out
          obtain ⟨_, nb0, nb1, nbf, nbz⟩ := own2 (g := B2) hc14 hl2 X2d.out
          obtain ⟨_, nc0, nc1, ncf, ncz⟩ := own2 (g := B3) hc14 hl3 X3d.out
          obtain ⟨_, nd0, nd1, nd2, ndf, ndz⟩ := own3 (g := C1) hc14 hl4 Y1c.out
          obtain ⟨_, ne0, ne1, nef, nez⟩ := own2 (g := C2) hc14 hl5 Y2b.out
          obtain ⟨_, nf0, nf1, nff, nfz⟩ := own2 (g := C3) hc14 zV3 Y3.out
          go_wp2_with fail
          go_ret
          exact ⟨rfl, BV.trans (hc14.mono BV.size)⟩
    · cases g
      · cases h
        · have hcase : True := trivial
          obtain ⟨rfl, rfl, rfl⟩ : a0 = d0 ∧ a1 = d1 ∧ a2 = d2 := by simpa using HF2.out rfl
          have heq := fun W' => eql_debt W' a0 a1 a2
          have hb0 : Below V.heap.size V V := Below.refl _ _
          obtain ⟨_, ka0, ka1, ka2, kaf, kaz⟩ := own3 (g := B1) hb0 hl1 X1d.out
          obtain ⟨_, kb0, kb1, kbf, kbz⟩ := own2 (g := B2) hb0 hl2 X2d.out
          obtain ⟨_, kc0, kc1, kcf, kcz⟩ := own2 (g := B3) hb0 hl3 X3d.out
          obtain ⟨_, kd0, kd1, kd2, kdf, kdz⟩ := own3 (g := C1) hb0 hl4 Y1c.out
          obtain ⟨_, ke0, ke1, kef, kez⟩ := own2 (g := C2) hb0 hl5 Y2b.out
          obtain ⟨_, kf0, kf1, kff, kfz⟩ := own2 (g := C3) hb0 zV3 Y3.out
          go_wp2_with fail
          clear hV hC3
          go_ret
          exact ⟨rfl, BV.trans (hb0.mono BV.size)⟩
        · have hcase : True := trivial
          obtain ⟨rfl, rfl, rfl⟩ : a0 = d0 ∧ a1 = d1 ∧ a2 = d2 := by simpa using HF2.out rfl
          have heq := fun W' => eql_debt W' a0 a1 a2
          obtain ⟨rfl, rfl⟩ := HH2.out rfl
          have hb0 : Below V.heap.size V V := Below.refl _ _
          obtain ⟨_, ka0, ka1, ka2, kaf, kaz⟩ := own3 (g := B1) hb0 hl1 X1d.out
          obtain ⟨_, kb0, kb1, kbf, kbz⟩ := own2 (g := B2) hb0 hl2 X2d.out
          obtain ⟨_, kc0, kc1, kcf, kcz⟩ := own2 (g := B3) hb0 hl3 X3d.out
          obtain ⟨_, kd0, kd1, kd2, kdf, kdz⟩ := own3 (g := C1) hb0 hl4 Y1c.out
          obtain ⟨_, ke0, ke1, kef, kez⟩ := own2 (g := C2) hb0 hl5 Y2b.out
          obtain ⟨_, kf0, kf1, kff, kfz⟩ := own2 (g := C3) hb0 zV3 Y3.out
          go_wp2_with fail
          clear hV hC3
          refine (l_sameLines M' _ _ _ _ _ (by omega) ((HR5.out.below hb0).more hb0.size) ((HRP3.out.below hb0).more hb0.size)).mono ?_
          rintro e w14 ⟨rfl, hb14⟩
          have hc14 := hb0.trans (hb14.mono hb0.size)
          obtain ⟨_, na0, na1, na2, naf, naz⟩ := own3 (g := B1) hc14 hl1 X1d.out
          obtain ⟨_, nb0, nb1, nbf, nbz⟩ := own2 (g := B2) hc14 hl2 X2d.out
          obtain ⟨_, nc0, nc1, ncf, ncz⟩ := own2 (g := B3) hc14 hl3 X3d.out
          obtain ⟨_, nd0, nd1, nd2, ndf, ndz⟩ := own3 (g := C1) hc14 hl4 Y1c.out
          obtain ⟨_, ne0, ne1, nef, nez⟩ := own2 (g := C2) hc14 hl5 Y2b.out
          obtain ⟨_, nf0, nf1, nff, nfz⟩ := own2 (g := C3) hc14 zV3 Y3.out
          go_wp2_with fail
          go_ret
          exact ⟨rfl, BV.trans (hc14.mono BV.size)⟩
      · cases h
        · have hcase : True := trivial
          obtain ⟨rfl, rfl, rfl⟩ : a0 = d0 ∧ a1 = d1 ∧ a2 = d2 := by simpa using HF2.out rfl
          have heq := fun W' => eql_debt W' a0 a1 a2
          obtain ⟨rfl, rfl⟩ := HG2.out rfl
          have hb0 : Below V.heap.size V V := Below.refl _ _
          obtain ⟨_, ka0, ka1, ka2, kaf, kaz⟩ := own3 (g := B1) hb0 hl1 X1d.out
          obtain ⟨_, kb0, kb1, kbf, kbz⟩ := own2 (g := B2) hb0 hl2 X2d.out
          obtain ⟨_, kc0, kc1, kcf, kcz⟩ := own2 (g := B3) hb0 hl3 X3d.out
          obtain ⟨_, kd0, kd1, kd2, kdf, kdz⟩ := own3 (g := C1) hb0 hl4 Y1c.out
          obtain ⟨_, ke0, ke1, kef, kez⟩ := own2 (g := C2) hb0 hl5 Y2b.out
          obtain ⟨_, kf0, kf1, kff, kfz⟩ := own2 (g := C3) hb0 zV3 Y3.out
          go_wp2_with fail
          clear hV hC3
          refine (l_sameLines L' _ _ _ _ _ (by omega) HR4b.out HRL3.out).mono ?_
          rintro e w13 ⟨rfl, hb13⟩
          have z13 := hb13.size
          obtain ⟨_, ma0, ma1, ma2, maf, maz⟩ := own3 (g := B1) hb13 hl1 X1d.out
          obtain ⟨_, mb0, mb1, mbf, mbz⟩ := own2 (g := B2) hb13 hl2 X2d.out
          obtain ⟨_, mc0, mc1, mcf, mcz⟩ := own2 (g := B3) hb13 hl3 X3d.out
          obtain ⟨_, md0, md1, md2, mdf, mdz⟩ := own3 (g := C1) hb13 hl4 Y1c.out
          obtain ⟨_, me0, me1, mef, mez⟩ := own2 (g := C2) hb13 hl5 Y2b.out
          obtain ⟨_, mf0, mf1, mff, mfz⟩ := own2 (g := C3) hb13 zV3 Y3.out
          go_wp2_with fail
          go_ret
          exact ⟨rfl, BV.trans (hb13.mono BV.size)⟩
        · have hcase : True := trivial
          obtain ⟨rfl, rfl, rfl⟩ : a0 = d0 ∧ a1 = d1 ∧ a2 = d2 := by simpa using HF2.out rfl
          have heq := fun W' => eql_debt W' a0 a1 a2
          obtain ⟨rfl, rfl⟩ := HG2.out rfl
          obtain ⟨rfl, rfl⟩ := HH2.out rfl
          have hb0 : Below V.heap.size V V := Below.refl _ _
          obtain ⟨_, ka0, ka1, ka2, kaf, kaz⟩ := own3 (g := B1) hb0 hl1 X1d.out
          obtain ⟨_, kb0, kb1, kbf, kbz⟩ := own2 (g := B2) hb0 hl2 X2d.out
          obtain ⟨_, kc0, kc1, kcf, kcz⟩ := own2 (g := B3) hb0 hl3 X3d.out
          obtain ⟨_, kd0, kd1, kd2, kdf, kdz⟩ := own3 (g := C1) hb0 hl4 Y1c.out
          obtain ⟨_, ke0, ke1, kef, kez⟩ := own2 (g := C2) hb0 hl5 Y2b.out
          obtain ⟨_, kf0, kf1, kff, kfz⟩ := own2 (g := C3) hb0 zV3 Y3.out
          go_wp2_with fail
          clear hV hC3
          refine (l_sameLines L' _ _ _ _ _ (by omega) HR4b.out HRL3.out).mono ?_
          rintro e w13 ⟨rfl, hb13⟩
          have z13 := hb13.size
          obtain ⟨_, ma0, ma1, ma2, maf, maz⟩ := own3 (g := B1) hb13 hl1 X1d.out
          obtain ⟨_, mb0, mb1, mbf, mbz⟩ := own2 (g := B2) hb13 hl2 X2d.out
          obtain ⟨_, mc0, mc1, mcf, mcz⟩ := own2 (g := B3) hb13 hl3 X3d.out
          obtain ⟨_, md0, md1, md2, mdf, mdz⟩ := own3 (g := C1) hb13 hl4 Y1c.out
          obtain ⟨_, me0, me1, mef, mez⟩ := own2 (g := C2) hb13 hl5 Y2b.out
          obtain ⟨_, mf0, mf1, mff, mfz⟩ := own2 (g := C3) hb13 zV3 Y3.out
          go_wp2_with fail
          refine (l_sameLines M' _ _ _ _ _ (by omega) ((HR5.out.below hb13).more hb13.size) ((HRP3.out.below hb13).more hb13.size)).mono ?_
          rintro e w14 ⟨rfl, hb14⟩
          have hc14 := hb13.trans (hb14.mono hb13.size)
          obtain ⟨_, na0, na1, na2, naf, naz⟩ := own3 (g := B1) hc14 hl1 X1d.out
          obtain ⟨_, nb0, nb1, nbf, nbz⟩ := own2 (g := B2) hc14 hl2 X2d.out
          obtain ⟨_, nc0, nc1, ncf, ncz⟩ := own2 (g := B3) hc14 hl3 X3d.out
          obtain ⟨_, nd0, nd1, nd2, ndf, ndz⟩ := own3 (g := C1) hc14 hl4 Y1c.out
          obtain ⟨_, ne0, ne1, nef, nez⟩ := own2 (g := C2) hc14 hl5 Y2b.out
          obtain ⟨_, nf0, nf1, nff, nfz⟩ := own2 (g := C3) hc14 zV3 Y3.out
          go_wp2_with fail
          go_ret
          exact ⟨rfl, BV.trans (hc14.mono BV.size)⟩
  · go_enter Tryz.func4, Tryz.ntmps4
    go_wp2_with fail
    go_ret
    exact ⟨rfl, Below.refl _ _⟩
end Go.Proofs.YtgpledgjpjifcaaGreatDoor

namespace Go.Proofs.YtgpledgjpjifcaaGreatDoor
open Go.ChangeShapes Go.WideShapes Go.ChangeAt Go.RowKit

theorem returnsInHanded_laid {H : Type} {enc : TypeId × Value → H} {a : Assume} {C : Checked} {os : Os} {f : FuncId} {fn : Func} {s : ChangeSpec} {conds : List PathCond} {apart fresh handsOn again : Bool} {laid : List (String × DataW Unit)}
    (own : ownKnob C.prog.godebug = none) (started : os.Started) (noInit : C.prog.inits.idxOf? f = none) (hfn : C.prog.funcs[f]? = some fn)
    (witness : ∃ (w : World) (tape : Tape) (i : Input), w.os = os ∧ (w.forCall tape i).Shaped C.prog ∧ i.vars = [] ∧ Input.okWide C.prog (w.forCall tape i) .any w.heap.size f i ∧
      ((s.pre enc C.prog fn conds apart (w.forCall tape i).memory i.args ∧ laidMetH C.prog laid (w.forCall tape i).memory) ∧ sizedMet enc C.prog fn (OpenSpec.ofChange s) apart (w.forCall tape i).memory i.args) ∧ a.holds C.prog (lone (Frame.enter C.prog f i.args .normal) [] (w.forCall tape i)))
    (contract : ∀ (W : World) (base : Nat) (args : Array Value) (ds gs : List (DataW H)) (before : List MemPlace),
      (∀ (j : Nat) t v, fn.params[j]? = some t → args[j]? = some v → Value.okWide C.prog W .any base t v) →
      DataW.Whole enc C.prog fn.params.toList s.vars apart W args.toList ds gs before →
      conds.all (PathCond.test C.prog ⟨fn.params.toList, ds, s.plain.varTypes C.prog, gs⟩) = true →
      laidMetH C.prog laid W → W.ShapedOpen C.prog →
      Calls C.prog f args W fun e W' => ∃ v, e = .returned v ∧ s.post enc C.prog fn apart fresh handsOn again W args v W') :
    ReturnsInHanded a C os f .any (fun w args => (s.pre enc C.prog fn conds apart w args ∧ laidMetH C.prog laid w) ∧ sizedMet enc C.prog fn (OpenSpec.ofChange s) apart w args) (s.post enc C.prog fn apart fresh handsOn again) := by
  refine returnsInHanded_of_calls own started noInit witness ?_
  intro w tape i _ hsh _ hok hpre _
  obtain ⟨_, _, _, fn', hfn', _, _, _, _, hval⟩ := hok
  have e : fn' = fn := Option.some.inj (hfn'.symm.trans hfn)
  subst e
  obtain ⟨⟨⟨ds, gs, before, hw, hc⟩, hx⟩, hz⟩ := hpre
  have hw' := DataW.Whole.of_heap (w' := w.forCall tape i) (by rfl) hw
  refine (contract (w.forCall tape i) w.heap.size i.args ds gs before hval hw' hc (hx.of_heap (by rfl)) hsh).mono fun e W' ⟨v, he, hp⟩ => ?_
  subst he
  exact ChangeSpec.post_blind hp
end Go.Proofs.YtgpledgjpjifcaaGreatDoor

namespace Go.Proofs.YtgpledgjpjifcaaGreatDoor
open Go.RowKit

theorem Ld.laid {n1 n2 : String} {d1 d2 : DataW Unit} {r : List (String × DataW Unit)} {w : World}
    (h : laidMetH Tryz.prog ((n1, d1) :: (n2, d2) :: ("internal/strconv.uint64pow10", Lib.tabData .u64 Lib.pow10Tab) :: r) w) (hs : w.ShapedOpen Tryz.prog)
    (hp : (((n1, d1) :: (n2, d2) :: ("internal/strconv.uint64pow10", Lib.tabData .u64 Lib.pow10Tab) :: r).all fun x => x.2.handleName?.isNone) = true) : Ld w := by
  rw [MakeChecks.laidMetH_plain _ _ _ hp] at h
  exact ⟨Lib.tabIs_of_head (t := 222) (n := 20) (e := 203) gPow (by kernel_rfl) Tryz.underlying222 Tryz.underlying203 (by kernel_rfl) (by kernel_rfl) h.tail.tail,
    Go.Proofs.cell_of_shapedOpen_int (zero := #[.int .i64 0]) (t := 3) hs (of_decide_eq_true (by kernel_rfl)) (by kernel_rfl) rfl (by kernel_rfl) (by kernel_rfl) Tryz.underlying3⟩
end Go.Proofs.YtgpledgjpjifcaaGreatDoor

namespace Go.Proofs.YtgpledgjpjifcaaGreatDoor
open Go.RowKit

theorem gRange : Tryz.prog.globalNamed "strconv.ErrRange" = some 4 := by kernel_rfl
theorem gSyn : Tryz.prog.globalNamed "strconv.ErrSyntax" = some 3 := by kernel_rfl
theorem star_err : "*" ++ "errors.errorString" = "*errors.errorString" := by decide
theorem row_err (u : TypeId) (h : Tryz.prog.typeName? 3 u = some "*errors.errorString") : u = 226 :=
  typeName_ptr_named (nm := "errors.errorString") (by rw [star_err]; kernel_rfl) (by kernel_rfl) (by decide) u (by rw [star_err]; exact h)
theorem Le.laid {n1 n2 n4 : String} {d1 d2 d4 : DataW Unit} {t1 t2 : List UInt8} {r : List (String × DataW Unit)} {w : World}
    (h : laidMetH Tryz.prog ((n1, d1) :: (n2, d2) :: ("internal/strconv.uint64pow10", Lib.tabData .u64 Lib.pow10Tab) :: (n4, d4) ::
      ("strconv.ErrRange", .iface "*errors.errorString" (.ptr (.agg [.lit (.string t1)]))) :: ("strconv.ErrSyntax", .iface "*errors.errorString" (.ptr (.agg [.lit (.string t2)]))) :: r) w)
    (hs : w.ShapedOpen Tryz.prog)
    (hp : (((n1, d1) :: (n2, d2) :: ("internal/strconv.uint64pow10", Lib.tabData .u64 Lib.pow10Tab) :: (n4, d4) ::
      ("strconv.ErrRange", DataW.iface "*errors.errorString" (.ptr (.agg [.lit (.string t1)]))) :: ("strconv.ErrSyntax", .iface "*errors.errorString" (.ptr (.agg [.lit (.string t2)]))) :: r).all fun x => x.2.handleName?.isNone) = true) : Le w := by
  have hL := Ld.laid h hs hp
  rw [MakeChecks.laidMetH_plain _ _ _ hp] at h
  have h5 := h.tail.tail.tail.tail
  obtain ⟨a, sa, hva, _, _, _⟩ := laid_sentinel (ti := 136) (tp := 226) (te := 228) (ts := 9) h5 gRange (by kernel_rfl) Tryz.underlying136 row_err Tryz.underlying226 Tryz.underlying228 rfl rfl Tryz.underlying9 (by kernel_rfl) (by kernel_rfl)
  obtain ⟨b, sb, hvb, _, _, _⟩ := laid_sentinel (ti := 136) (tp := 226) (te := 228) (ts := 9) h5.tail gSyn (by kernel_rfl) Tryz.underlying136 row_err Tryz.underlying226 Tryz.underlying228 rfl rfl Tryz.underlying9 (by kernel_rfl) (by kernel_rfl)
  have ca := World.var?_cell gRange hva 0
  have cb := World.var?_cell gSyn hvb 0
  exact ⟨hL, ⟨_, by simpa using cb, Or.inr ⟨_, _, rfl⟩⟩, ⟨_, by simpa using ca, Or.inr ⟨_, _, rfl⟩⟩⟩
end Go.Proofs.YtgpledgjpjifcaaGreatDoor

namespace Go.Proofs.YtgpledgjpjifcaaGreatDoor
open Go.ChangeShapes Go.WideShapes Go.ChangeAt Go.RowKit

theorem FnDebt_own : ownKnob Tryz.prog.godebug = none := by kernel_rfl
theorem FnDebt_laidOut : laidOutB Tryz.prog = true := by kernel_rfl
set_option maxRecDepth 100000 in
theorem FnDebt_lifted (os : Os) (started : os.Started) (H : Type) (enc : TypeId × Value → H) :
    ReturnsInHanded {} Tryz.checked os 4 .any (fun w args => (Rows.fnDebtSpec.pre enc Tryz.prog Tryz.f4 Rows.fnDebtRow.domain false w args ∧ laidMetH Tryz.prog Rows.fnDebtRow.laid w) ∧ sizedMet enc Tryz.prog Tryz.f4 (OpenSpec.ofChange Rows.fnDebtSpec) false w args)
      (Rows.fnDebtSpec.post enc Tryz.prog Tryz.f4 false true false false) := by
  refine returnsInHanded_laid (C := Tryz.checked) FnDebt_own started (by kernel_rfl) Tryz.func4
    (ChangeSpec.witness_shaped (enc := enc) (C := Tryz.checked) (os := os) (X := fun w _ => laidMetH Tryz.prog Rows.fnDebtRow.laid w) false (World.laidAll Tryz.prog os Rows.fnDebtRow.laid) #[.slice none 0 0] 8 (World.laidAll_os _ _ _)
      (World.shaped_of_ZipB (by kernel_rfl) (by kernel_rfl)) (by kernel_rfl) (by kernel_rfl) (by kernel_rfl)
      (by rw [MakeChecks.laidMetH_plain _ _ _ (by kernel_rfl)]; exact laidMet_laidAll _ (by kernel_rfl) (by kernel_rfl))) ?_
  intro W base args ds gs before hval0 hW hcnd hlaid hshape
  have hval : ∀ (j : Nat) t v, Tryz.f4.params[j]? = some t → args[j]? = some v → Value.okWide Tryz.prog W .any base t v := hval0
  have hW' := hW
  obtain ⟨p, q, hA0, hV, rfl, hfz, hnd⟩ := hW
  have hA : DataW.TrodAll enc Tryz.prog W 0 (fun _ => true) true Tryz.f4.params.toList args.toList ds p := hA0
  rw [Tryz.params4] at hA hval
  obtain ⟨v0, vs0, d0, ds0, p0, q0, hargs, rfl, rfl, h0, r0⟩ := trodAll_cons hA
  obtain ⟨rfl, rfl, rfl⟩ := trodAll_nil r0
  obtain rfl : args = #[v0] := by cases args; simp_all
  obtain ⟨A0, len0, cap0, rfl⟩ := okWide_slice Tryz.underlying22 (hval 0 22 v0 rfl rfl)
  obtain ⟨fuel0, hf0⟩ := h0
  have hcode0 := code_of_trod Tryz.underlying22 Tryz.underlying5 (by kernel_rfl) hf0
  refine (l_FnDebt A0 len0 cap0 W (Le.laid hlaid hshape (by kernel_rfl)) hcode0).mono fun e W' ⟨he, hb⟩ => ⟨_, he, ?_⟩
  exact law_post FnDebt_laidOut (by kernel_rfl) (tb := 4) rfl Tryz.underlying4 rfl (fun ds' hl => by match ds', hl with | [_], _ => rfl) hW' hb

theorem FnDebt_holds : Rows.FnDebtSaid :=
  OpenClaim.holds_of_wide 4 Tryz.f4 rfl rfl rfl rfl rfl rfl rfl ⟨rfl, rfl, rfl, rfl, rfl⟩ rfl rfl rfl rfl rfl (by kernel_rfl) Tryz.func4 (by kernel_rfl)
    (of_decide_eq_true (by kernel_rfl)) (by unfold Func.isWrapper; first | (rw [if_pos (by decide +kernel)]; kernel_rfl) | (rw [if_neg (by decide +kernel)]; exact ⟨rfl, rfl⟩))
    (fun os started H enc _ => FnDebt_lifted os started H enc)
theorem FnDebt_card : Rows.FnDebtCardSaid :=
  Claim7.holds_tied_plain_at .later [] [.data, .data, .data, .data, .sentinel, .sentinel, .pinned] true (true, "81dabb792d5fe361bf0e6b1c2550c1c6677faa3c4c1ce8447b9b83430f46a2c4") true FnDebt_holds (fun _ h => by cases h) (by kernel_rfl) (fun _ h => by cases h) fnDebt_row_tie rfl ⟨rfl, rfl⟩ (by kernel_rfl) rfl
    (fun f fn hf hfn => by
      obtain rfl : f = 4 := Option.some.inj ((show Tryz.prog.funcNamed "loop.example/g00400/laws.FnDebt" = some 4 by kernel_rfl).symm.trans hf) |>.symm
      obtain rfl : fn = Tryz.f4 := (Option.some.inj (Tryz.func4.symm.trans hfn)).symm
      exact ⟨by kernel_rfl, fun j t ht => by
        rw [Tryz.params4] at ht
        have hm : t ∈ [22] := by simpa using Array.mem_of_getElem? ht
        have hall : ([22].all fun u => !Tryz.prog.wantsStandIn u) = true := by kernel_rfl
        exact (show Tryz.prog.wantsStandIn t = false by simpa using List.all_eq_true.1 hall t hm)⟩)
    (by kernel_rfl)
#print axioms FnDebt_card
end Go.Proofs.YtgpledgjpjifcaaGreatDoor
