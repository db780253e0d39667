/- Texts cut into parts, parts read as numbers: the walks. -/
import Derived.Test.YtgpledgjpjifcaaDoorRows
import Derived.Test.YtgpledgjpjifcaaDoorStrs
import Derived.Test.YtgpledgjpjifcaaDoorNumP
import Derived.Test.YtgpledgjpjifcaaDoorTxtP
import Derived.Deep.AppendLies
namespace Go.Proofs.YtgpledgjpjifcaaDoor
open Go.RowKit Go.Deep

theorem info_ints : (Tryd.prog.info? 3).map (fun i => (i.zero, i.size, i.bytes)) = some (some (.int .i64 0), 1, 8) := by kernel_rfl
theorem str_cut (s : ByteArray) (a b : Nat) : (s.extract a b).data.toList = (s.data.toList.drop a).take (b - a) := by
  rw [ByteArray.data_extract, Array.toList_extract]
/-- where the pieces stand while a text is cut from the left -/
theorem parts_step {b : UInt8} {l : List UInt8} {f k : Nat} {D : List (List UInt8)} (hD : parts b l = D ++ parts b (l.drop f)) (hfk : f ≤ k) (hno : b ∉ (l.drop f).take (k - f)) (hk : l[k]? = some b) :
    parts b l = (D ++ [(l.drop f).take (k - f)]) ++ parts b (l.drop (k + 1)) := by
  have hlt : k < l.length := (List.getElem?_eq_some_iff.1 hk).1
  have e : l.drop f = (l.drop f).take (k - f) ++ b :: l.drop (k + 1) := by
    conv => lhs; rw [← List.take_append_drop (k - f) (l.drop f)]
    rw [List.drop_drop, show f + (k - f) = k by omega, List.drop_eq_getElem_cons hlt]
    congr 2
    rw [List.getElem?_eq_getElem hlt] at hk
    exact Option.some.inj hk
  have e2 : parts b (l.drop f) = (l.drop f).take (k - f) :: parts b (l.drop (k + 1)) := by
    conv => lhs; rw [e]
    exact parts_mid _ hno
  rw [hD, e2]
  simp
theorem parts_end {b : UInt8} {l : List UInt8} {f : Nat} {D : List (List UInt8)} (hD : parts b l = D ++ parts b (l.drop f)) (hno : b ∉ (l.drop f).take (l.length - f)) : parts b l = D ++ [l.drop f] := by
  rw [List.take_of_length_le (by simp)] at hno
  rw [hD, parts_none hno]
theorem no_next {b c : UInt8} {l : List UInt8} {f k : Nat} (hfk : f ≤ k) (hno : b ∉ (l.drop f).take (k - f)) (hk : l[k]? = some c) (hc : c ≠ b) : b ∉ (l.drop f).take (k + 1 - f) := by
  have hlt : k < l.length := (List.getElem?_eq_some_iff.1 hk).1
  rw [show k + 1 - f = (k - f) + 1 by omega, List.take_add_one, List.mem_append, not_or]
  refine ⟨hno, ?_⟩
  rw [List.getElem?_drop, show f + (k - f) = k by omega, hk]
  simpa using Ne.symm hc
/-- numbers that are read one after the other: the slice of them, or nothing -/
def NumsP (ls : List (List UInt8)) (w : World) (e : Ending) (w' : World) : Prop :=
  ((ls.all numOk = true ∧ ∃ A cap, e = .returned (.tuple #[.slice A ls.length cap, .bool true]) ∧ Ow w' w.heap.size 3 1 (.slice A ls.length cap) ((ls.map numOf).map intCells)) ∨
    (ls.all numOk = false ∧ e = .returned (.tuple #[.slice none 0 0, .bool false]))) ∧ Below w.heap.size w w'
set_option maxRecDepth 100000 in
set_option maxHeartbeats 1000000 in
theorem i_numbersOf (ls : List (List UInt8)) (A : Option Addr) (cap : Nat) (w : World) (hld : Le w) (hl : ls.length ≤ 1048577) (hs : ∀ x ∈ ls, x.length ≤ 1048576) (hr : Rd w w.heap.size 1 A (ls.map strC)) :
    Calls Tryd.prog 72 #[.slice A ls.length cap] w (NumsP ls w) := by
  have HLD := Lib.hid hld
  have HR := Lib.hid hr
  have HSZ := Lib.hid hs
  clear hld hr hs
  obtain ⟨i0, hi, hz0, hz1, hz2⟩ := info_parts info_ints
  have HI := Lib.hid hi
  have HZ0 := Lib.hid hz0
  have HZ1 := Lib.hid hz1
  have HZ2 := Lib.hid hz2
  clear hi hz0 hz1 hz2
  go_enter Tryd.func72, Tryd.ntmps72
  go_wp2_with fail
  go_loopw [4, 11] (fun v i wr => ∃ (k : Nat) (B : Option Addr) (cp : Nat), k ≤ ls.length ∧ i = .int .i64 k ∧ v = .slice B ((ls.take k).map numOf).length cp ∧ Ow wr w.heap.size 3 1 (.slice B ((ls.take k).map numOf).length cp) (((ls.take k).map numOf).map intCells) ∧ Hid ((ls.take k).all numOk = true) ∧ Below w.heap.size w wr) (fun _ i _ => ls.length - (intOf i).toNat)
  case atStart => exact ⟨0, none, 0, Nat.zero_le _, rfl, rfl, Ow.nil_, Lib.hid rfl, Below.refl _ _⟩
  case round =>
    obtain ⟨k, B, cp, hk, rfl, rfl, how, HA, hbw⟩ := hrel
    have hbz := hbw.size
    have hrl : ((ls.take k).map numOf).length ≤ 1048577 := by simp; omega
    have OB := Lib.hid how.block
    have HW := Lib.hid how
    clear how
    by_cases hlt : k < ls.length
    · obtain ⟨b, off, rfl, hbB, c0⟩ := strs_rd (HR.out.below hbw) hlt
      have HK := Lib.hid (show (ls.take (k + 1)).map numOf = (ls.take k).map numOf ++ [numOf ls[k]] by
        rw [List.take_succ_eq_append_getElem hlt, List.map_append]
        rfl)
      have hsz := HSZ.out ls[k] (List.getElem_mem hlt)
      obtain ⟨x, hx⟩ : ∃ x : ByteArray, (⟨(ls[k]).toArray⟩ : ByteArray) = x := ⟨_, rfl⟩
      have hxl : x.data.toList = ls[k] := by rw [← hx]
      have hxs : x.size ≤ 281474976710656 := by
        have : x.data.toList.length = x.size := Array.length_toList
        rw [hxl] at this
        omega
      have HXL := Lib.hid hxl
      rw [hx] at c0
      clear hx hxl hsz
      obtain ⟨RS, hRS⟩ : ∃ R, (ls.take k).map numOf = R := ⟨_, rfl⟩
      rw [hRS] at hrl OB HW HK ⊢
      clear hRS
      cases hok : numOk ls[k]
      · have HN := Lib.hid (show ls.all numOk = false by
          rw [List.all_eq_false]
          exact ⟨ls[k], List.getElem_mem hlt, by rw [hok]; simp⟩)
        have HOK := Lib.hid hok
        clear hok
        go_wp2_with fail
        refine (i_TextNum x _ (HLD.out.below (by (first | ((repeat' first | (with_reducible (first | exact Below.refl _ _ | assumption | refine Below.setCell ?_ ?_ _ | refine Below.alloc ?_ ?_ _ | refine Below.drew ?_ | refine below_drewN ?_ _ | refine Below.trans ?_ (Below.mono (by assumption) ?_))) | omega | (simp; omega) | (simp; done)); done) | (repeat' first | exact Below.refl _ _ | assumption | refine Below.setCell ?_ (by first | omega | (simp; omega) | (simp; done)) _ | refine Below.alloc ?_ (by first | omega | (simp; omega) | (simp; done)) _ | refine Below.drew ?_ | refine below_drewN ?_ _ | refine Below.trans ?_ (Below.mono (by assumption) (by first | omega | (simp; omega) | (simp; done))))))) hxs).mono ?_
        rintro e w1 ⟨rfl, hb1⟩
        have z1 := hb1.size
        rw [HXL.out, HOK.out]
        go_wp2_with fail
        go_ret2
        exact ⟨Or.inr ⟨HN.out, rfl⟩, by (first | ((repeat' first | (with_reducible (first | exact Below.refl _ _ | assumption | refine Below.setCell ?_ ?_ _ | refine Below.alloc ?_ ?_ _ | refine Below.drew ?_ | refine below_drewN ?_ _ | refine Below.trans ?_ (Below.mono (by assumption) ?_))) | omega | (simp; omega) | (simp; done)); done) | (repeat' first | exact Below.refl _ _ | assumption | refine Below.setCell ?_ (by first | omega | (simp; omega) | (simp; done)) _ | refine Below.alloc ?_ (by first | omega | (simp; omega) | (simp; done)) _ | refine Below.drew ?_ | refine below_drewN ?_ _ | refine Below.trans ?_ (Below.mono (by assumption) (by first | omega | (simp; omega) | (simp; done)))))⟩
      · have HOK := Lib.hid hok
        clear hok
        go_wp2_with fail
        refine (i_TextNum x _ (HLD.out.below (by (first | ((repeat' first | (with_reducible (first | exact Below.refl _ _ | assumption | refine Below.setCell ?_ ?_ _ | refine Below.alloc ?_ ?_ _ | refine Below.drew ?_ | refine below_drewN ?_ _ | refine Below.trans ?_ (Below.mono (by assumption) ?_))) | omega | (simp; omega) | (simp; done)); done) | (repeat' first | exact Below.refl _ _ | assumption | refine Below.setCell ?_ (by first | omega | (simp; omega) | (simp; done)) _ | refine Below.alloc ?_ (by first | omega | (simp; omega) | (simp; done)) _ | refine Below.drew ?_ | refine below_drewN ?_ _ | refine Below.trans ?_ (Below.mono (by assumption) (by first | omega | (simp; omega) | (simp; done))))))) hxs).mono ?_
        rintro e w1 ⟨rfl, hb1⟩
        have z1 := hb1.size
        rw [HXL.out, HOK.out]
        have hb2 : Below w.heap.size w w1 := by (first | ((repeat' first | (with_reducible (first | exact Below.refl _ _ | assumption | refine Below.setCell ?_ ?_ _ | refine Below.alloc ?_ ?_ _ | refine Below.drew ?_ | refine below_drewN ?_ _ | refine Below.trans ?_ (Below.mono (by assumption) ?_))) | omega | (simp; omega) | (simp; done)); done) | (repeat' first | exact Below.refl _ _ | assumption | refine Below.setCell ?_ (by first | omega | (simp; omega) | (simp; done)) _ | refine Below.alloc ?_ (by first | omega | (simp; omega) | (simp; done)) _ | refine Below.drew ?_ | refine below_drewN ?_ _ | refine Below.trans ?_ (Below.mono (by assumption) (by first | omega | (simp; omega) | (simp; done)))))
        have HW1 := Lib.hid (HW.out.below hb1)
        have KB := Lib.hid (fun o1 (w6 : World) (hgr : (w1.alloc o1).grownBy w6 (Value.slice B RS.length cp).ownBlock) => (hb2.alloc (by omega) o1).grown hgr (by simp; omega) (fun k e => (OB.out k e).1))
        have HA1 := Lib.hid (show (ls.take (k + 1)).all numOk = true by
          rw [List.take_succ_eq_append_getElem hlt, List.all_append, HA.out]
          simp [HOK.out])
        obtain ⟨v, hv⟩ : ∃ v, numOf ls[k] = v := ⟨_, rfl⟩
        rw [hv] at HK ⊢
        clear hb1 HW HA hv
        go_wp2_with (at_builtin; refine wpList_app1 rfl _ _ _ rfl w.heap.size 3 i0 _ 1 8 Tryd.underlying93 HI.out HZ0.out HZ1.out HZ2.out rfl (by decide) (.slice B RS.length cp) (RS.map intCells) rfl (HW1.out.alloc _) w1.heap.size 1 [.int .i64 v] 3 rfl (heap_at (by first | rfl | (simp; done))) rfl (by simp [Value.oneCell']) (by rw [List.length_map]; omega) (by decide) (by first | omega | (simp; omega) | (simp; done)) ?_; intro g cap' w6 how6 hgr6 hat6 hlt6; rw [List.length_map] at how6; rw [List.length_map]; have hb6 := KB.out _ _ hgr6; have O6 := Lib.hid how6; clear how6 hgr6 hat6)
        go_roundw
        case rel =>
          refine ⟨k + 1, some ⟨g, 0, none⟩, cap', by omega, by go_num, by rw [HK.out, List.length_append]; rfl, ?_, HA1, hb6⟩
          rw [HK.out, List.map_append, List.length_append]
          exact O6.out
        case measure => simp [intOf]; omega
    · obtain rfl : k = ls.length := by omega
      rw [List.take_length] at HW HA ⊢
      have HW2 : Hid (Ow wr w.heap.size 3 1 (.slice B ls.length cp) ((ls.map numOf).map intCells)) := Lib.hid (by
        have := HW.out
        rw [List.length_map] at this
        exact this)
      rw [List.length_map]
      clear HW OB
      go_wp2_with fail
      go_ret2
      exact ⟨Or.inl ⟨HA.out, B, cp, rfl, HW2.out⟩, hbw⟩
/-- the pieces of a text, in a slice of its own -/
def PartsP (b : UInt8) (l : List UInt8) (w : World) (e : Ending) (w' : World) : Prop :=
  ∃ A cap, e = .returned (.slice A (parts b l).length cap) ∧ Ow w' w.heap.size 9 1 (.slice A (parts b l).length cap) ((parts b l).map strC) ∧ Below w.heap.size w w'
set_option maxRecDepth 100000 in
set_option maxHeartbeats 1000000 in
theorem s_l04Parts (s : ByteArray) (b : UInt8) (x : Int) (w : World) (hx : x = (b.toNat : Int)) (hs : s.size ≤ 1048576) : Calls Tryd.prog 70 #[.string s, .int .u8 x] w (PartsP b s.data.toList w) := by
  have hz := Lib.hid (show s.data.toList.length = s.size from Array.length_toList)
  have HX := Lib.hid hx
  have HE0 := Lib.hid (Ow.empty_ (w := w) (g := w.heap.size) (e := 9) (size := 1) (B := w.heap.size) rfl (Nat.le_refl _))
  clear hx
  obtain ⟨i0, hi, hz0, hz1, hz2⟩ := info_parts info_str
  have HI := Lib.hid hi
  have HZ0 := Lib.hid hz0
  have HZ1 := Lib.hid hz1
  have HZ2 := Lib.hid hz2
  clear hi hz0 hz1 hz2
  go_enter Tryd.func70, Tryd.ntmps70
  go_wp2_with fail
  go_loopw [5, 6, 7] (fun v fr i wr => ∃ (k f : Nat) (D : List (List UInt8)) (B : Option Addr) (cp : Nat), k ≤ s.size ∧ f ≤ k ∧ i = .int .i64 k ∧ fr = .int .i64 f ∧ v = .slice B D.length cp ∧ D.length ≤ f ∧ Ow wr w.heap.size 9 1 (.slice B D.length cp) (D.map strC) ∧ Hid (parts b s.data.toList = D ++ parts b (s.data.toList.drop f)) ∧ Hid (b ∉ (s.data.toList.drop f).take (k - f)) ∧ Below w.heap.size w wr) (fun _ _ i _ => s.size - (intOf i).toNat)
  case atStart => exact ⟨0, 0, [], _, _, Nat.zero_le _, Nat.le_refl _, rfl, rfl, rfl, Nat.le_refl _, HE0.out, Lib.hid rfl, Lib.hid (by simp), by (first | ((repeat' first | (with_reducible (first | exact Below.refl _ _ | assumption | refine Below.setCell ?_ ?_ _ | refine Below.alloc ?_ ?_ _ | refine Below.drew ?_ | refine below_drewN ?_ _ | refine Below.trans ?_ (Below.mono (by assumption) ?_))) | omega | (simp; omega) | (simp; done)); done) | (repeat' first | exact Below.refl _ _ | assumption | refine Below.setCell ?_ (by first | omega | (simp; omega) | (simp; done)) _ | refine Below.alloc ?_ (by first | omega | (simp; omega) | (simp; done)) _ | refine Below.drew ?_ | refine below_drewN ?_ _ | refine Below.trans ?_ (Below.mono (by assumption) (by first | omega | (simp; omega) | (simp; done)))))⟩
  case round =>
    obtain ⟨k, f, D, B, cp, hk, hfk, rfl, rfl, rfl, hDf, how, HD, HN, hbw⟩ := hrel
    have hbz := hbw.size
    have OB := Lib.hid how.block
    have HW := Lib.hid how
    clear how HE0
    have KB := Lib.hid (fun o1 (w6 : World) (hgr : (wr.alloc o1).grownBy w6 (Value.slice B D.length cp).ownBlock) => (hbw.alloc (by omega) o1).grown hgr (by simp; omega) (fun k e => (OB.out k e).1))
    have f0 : (0 : Int) ≤ (f : Int) := by omega
    have f1 : (f : Int) ≤ (k : Int) := by omega
    have f2 : (k : Int) ≤ (s.size : Int) := by omega
    by_cases hlt : k < s.size
    · have HB := Lib.hid (byte_at hlt)
      by_cases hc : s[k] = b
      · have HS := Lib.hid (parts_step HD.out hfk HN.out (by rw [HB.out, hc]))
        have hcx : ((s[k].toNat : Int) == x) = true := by rw [beq_iff_eq, hc, HX.out]
        have HC := Lib.hid (str_cut s f k)
        clear hc HB
        go_wp2_with (at_builtin; refine wpList_app1 rfl _ _ _ rfl w.heap.size 9 i0 _ 1 16 Tryd.underlying107 HI.out HZ0.out HZ1.out HZ2.out rfl (by decide) (.slice B D.length cp) (D.map strC) rfl (HW.out.alloc _) wr.heap.size 1 [.string (s.extract f k)] 9 rfl (heap_at (by first | rfl | (simp; done))) rfl (by simp [Value.oneCell']) (by rw [List.length_map]; omega) (by decide) (by first | omega | (simp; omega) | (simp; done)) ?_; intro g cap' w6 how6 hgr6 hat6 hlt6; rw [List.length_map] at how6; rw [List.length_map]; have hb6 := KB.out _ _ hgr6; have O6 := Lib.hid how6; clear how6 hgr6 hat6)
        go_roundw
        case rel =>
          refine ⟨k + 1, k + 1, D ++ [(s.data.toList.drop f).take (k - f)], some ⟨g, 0, none⟩, cap', by omega, by omega, by go_num, by go_num, by rw [List.length_append]; rfl, by simp; omega, ?_, Lib.hid HS.out, Lib.hid (by simp), hb6⟩
          rw [List.map_append, List.length_append, ← HC.out]
          exact O6.out
        case measure => simp [intOf]; omega
      · have HS := Lib.hid (no_next hfk HN.out HB.out hc)
        have hcx : ((s[k].toNat : Int) == x) = false := by
          rw [beq_eq_false_iff_ne, HX.out]
          intro h
          exact hc (UInt8.toNat_inj.1 (by omega))
        clear hc HB
        go_wp2_with fail
        go_roundw
        case rel => exact ⟨k + 1, f, D, B, cp, by omega, by omega, by go_num, rfl, rfl, hDf, HW.out, HD, Lib.hid HS.out, hbw⟩
        case measure => simp [intOf]; omega
    · obtain rfl : k = s.size := by omega
      have HS := Lib.hid (parts_end HD.out (by rw [hz.out]; exact HN.out))
      have HC := Lib.hid (show (s.extract f s.size).data.toList = s.data.toList.drop f by
        rw [str_cut, List.take_of_length_le]
        rw [List.length_drop, hz.out]
        exact Nat.le_refl _)
      have HL := Lib.hid (show (parts b s.data.toList).length = D.length + 1 by rw [HS.out]; simp)
      go_wp2_with (at_builtin; refine wpList_app1 rfl _ _ _ rfl w.heap.size 9 i0 _ 1 16 Tryd.underlying107 HI.out HZ0.out HZ1.out HZ2.out rfl (by decide) (.slice B D.length cp) (D.map strC) rfl (HW.out.alloc _) wr.heap.size 1 [.string (s.extract f s.size)] 9 rfl (heap_at (by first | rfl | (simp; done))) rfl (by simp [Value.oneCell']) (by rw [List.length_map]; omega) (by decide) (by first | omega | (simp; omega) | (simp; done)) ?_; intro g cap' w6 how6 hgr6 hat6 hlt6; rw [List.length_map] at how6; rw [List.length_map]; have hb6 := KB.out _ _ hgr6; have O6 := Lib.hid how6; clear how6 hgr6 hat6)
      go_ret
      refine ⟨some ⟨g, 0, none⟩, cap', ?_, ?_, hb6⟩
      · show Ending.returned (.slice (some ⟨g, 0, none⟩) (D.length + 1) cap') = _
        rw [HL.out]
      rw [HL.out, HS.out, List.map_append, ← HC.out]
      exact O6.out
/-- the lines of a text -/
def linesL (l : List UInt8) : List (List UInt8) := if (parts 10 l).getLast? = some [] then (parts 10 l).dropLast else parts 10 l
theorem linesL_len (l : List UInt8) : (linesL l).length ≤ l.length + 1 := by
  have := parts_len 10 l
  unfold linesL
  split
  · rw [List.length_dropLast]; omega
  · exact this
theorem linesL_sub (l : List UInt8) : ∀ p ∈ linesL l, p.length ≤ l.length := by
  intro p hp
  unfold linesL at hp
  split at hp
  · exact parts_sub 10 l p (List.dropLast_subset _ hp)
  · exact parts_sub 10 l p hp
/-- the block of a slice of strings, and what its cells hold -/
theorem Ow.strs {w : World} {B g n cap : Nat} {e : TypeId} {l : List (List UInt8)} (h : Ow w B e 1 (.slice (some ⟨g, 0, none⟩) n cap) (l.map strC)) :
    ∃ cs, w.heap[g]? = some (.cells cs e (0, 0)) ∧ ∀ (j : Nat) x, l[j]? = some x → cs[j]? = some (.string ⟨x.toArray⟩) := by
  obtain ⟨cs, hh, _, _⟩ := Fill.of_ow (xs := []) h
  refine ⟨cs, hh, fun j x hx => ?_⟩
  have hj : j < l.length := (List.getElem?_eq_some_iff.1 hx).1
  obtain ⟨b, off, e1, _, hc⟩ := strs_rd h.rd hj
  simp only [Option.some.injEq, Addr.mk.injEq, and_true] at e1
  obtain ⟨rfl, rfl⟩ := e1
  rw [blk_cell hh, Nat.zero_add] at hc
  rw [List.getElem?_eq_getElem hj] at hx
  rw [hc, Option.some.inj hx]
def LinesP (l : List UInt8) (w : World) (e : Ending) (w' : World) : Prop :=
  ∃ (cap : Nat) (cs : Array Value), e = .returned (.slice (some ⟨w.heap.size, 0, none⟩) (linesL l).length cap) ∧ w'.heap[w.heap.size]? = some (.cells cs 9 (0, 0)) ∧ (∀ (j : Nat) x, (linesL l)[j]? = some x → cs[j]? = some (.string ⟨x.toArray⟩)) ∧ (linesL l).length ≤ cap ∧ Below w.heap.size w w'
set_option maxHeartbeats 1000000 in
theorem i_linesOf (s : ByteArray) (w : World) (hld : Ld w) (hs : s.size ≤ 1048576) : Calls Tryd.prog 80 #[.string s] w (LinesP s.data.toList w) := by
  have HC := Lib.hid (i_Split s 10 w hld (by omega))
  have hpl := parts_len 10 s.data.toList
  have hz : s.data.toList.length = s.size := Array.length_toList
  have hp0 : 0 < (parts 10 s.data.toList).length := by
    have := parts_ne 10 s.data.toList
    exact List.length_pos_iff.2 this
  rw [hz] at hpl
  have HD := Lib.hid (show linesL s.data.toList = if (parts 10 s.data.toList).getLast? = some [] then (parts 10 s.data.toList).dropLast else parts 10 s.data.toList from rfl)
  obtain ⟨P, hP⟩ : ∃ P, parts 10 s.data.toList = P := ⟨_, rfl⟩
  obtain ⟨LL, hLL⟩ : ∃ LL, linesL s.data.toList = LL := ⟨_, rfl⟩
  have HPost := Lib.hid (show ∀ cap cs w', w'.heap[w.heap.size]? = some (.cells cs 9 (0, 0)) → (∀ (j : Nat) x, LL[j]? = some x → cs[j]? = some (.string ⟨x.toArray⟩)) → LL.length ≤ cap → Below w.heap.size w w' → LinesP s.data.toList w (.returned (.slice (some ⟨w.heap.size, 0, none⟩) LL.length cap)) w' from fun cap cs w' h1 h2 h3 h4 => ⟨cap, cs, by rw [hLL], h1, by rw [hLL]; exact h2, by rw [hLL]; exact h3, h4⟩)
  rw [hLL, hP] at HD
  rw [hP] at HC hpl hp0
  clear hP hLL hz hld
  obtain ⟨j, hj⟩ : ∃ j, P.length = j + 1 := ⟨P.length - 1, by omega⟩
  have hjP : j < P.length := by omega
  have HG := Lib.hid (show P.getLast? = some P[j] by
    rw [List.getLast?_eq_getElem?, hj, Nat.add_sub_cancel, List.getElem?_eq_getElem hjP])
  have HJ := Lib.hid hj
  rw [hj] at HC hpl
  clear hp0 hj
  have i1 : (0 : Int) ≤ (j : Int) := by omega
  go_enter Tryd.func80, Tryd.ntmps80
  go_wp2_with fail
  refine HC.out.mono ?_
  rintro e w1 ⟨rfl, how, hb1⟩
  have z1 := hb1.size
  have HW := Lib.hid how
  obtain ⟨b, off, e1, hbB, c0⟩ := strs_rd how.rd hjP
  simp only [Option.some.injEq, Addr.mk.injEq, and_true] at e1
  obtain ⟨rfl, rfl⟩ := e1
  rw [Nat.zero_add] at c0
  clear how
  obtain ⟨x, hx⟩ : ∃ x : ByteArray, (⟨(P[j]).toArray⟩ : ByteArray) = x := ⟨_, rfl⟩
  have HXL := Lib.hid (show Str P[j] x from hx.symm)
  rw [hx] at c0
  clear hx
  by_cases hxe : x = ⟨#[]⟩
  · have HT := Lib.hid (show LL = P.dropLast by
      rw [HD.out, HG.out, if_pos]
      have := HXL.out.data
      rw [hxe] at this
      rw [← this])
    have HL := Lib.hid (show LL.length = j by rw [HT.out, List.length_dropLast, HJ.out, Nat.add_sub_cancel])
    subst hxe
    go_wp2_with fail
    go_ret
    obtain ⟨cs, h1, h2⟩ := HW.out.strs
    have := HPost.out (j + 1) cs _ h1 (fun i y hy => h2 i y (by
      rw [HT.out, List.dropLast_eq_take, List.getElem?_take] at hy
      split at hy
      · exact hy
      · cases hy)) (by rw [HL.out]; omega) hb1
    rw [HL.out] at this
    exact this
  · have HT := Lib.hid (show LL = P by
      rw [HD.out, HG.out, if_neg]
      intro h
      refine hxe ?_
      have h2 : P[j] = [] := Option.some.inj h
      have := HXL.out
      unfold Str at this
      rw [this, h2])
    have hne := neq_str hxe
    have hne1 : x.toList.isEmpty = false := by
      have h := neq_str hxe
      cases hx : x.toList with
      | nil => rw [hx] at h; simp at h
      | cons a r => rfl
    clear hne
    have HL := Lib.hid (show LL.length = j + 1 by rw [HT.out, HJ.out])
    clear hxe
    go_wp2_with fail
    go_ret
    obtain ⟨cs, h1, h2⟩ := HW.out.strs
    have := HPost.out (j + 1) cs _ h1 (fun i y hy => h2 i y (by rw [HT.out] at hy; exact hy)) (by rw [HL.out]; exact Nat.le_refl _) hb1
    rw [HL.out] at this
    exact this
end Go.Proofs.YtgpledgjpjifcaaDoor
