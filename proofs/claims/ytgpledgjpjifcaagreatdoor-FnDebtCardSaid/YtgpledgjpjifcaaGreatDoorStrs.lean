/- Slices of strings: plain ground; strings.Join, strings.Split and withNumbers: the walks of the program. -/
import Derived.Test.YtgpledgjpjifcaaGreatDoorRows
import Derived.Test.YtgpledgjpjifcaaGreatDoorBookA
import Derived.Test.YtgpledgjpjifcaaGreatDoorBase2
import Derived.Test.YtgpledgjpjifcaaGreatDoorTxtB
import Derived.Test.YtgpledgjpjifcaaGreatDoorAccT
import Derived.Deep.AppendLies
namespace Go.Proofs.YtgpledgjpjifcaaGreatDoor
open Go.RowKit Go.Deep

def strC (l : List UInt8) : List Value := [.string ⟨l.toArray⟩]
theorem strs_uni (l : List (List UInt8)) : ∀ r ∈ l.map strC, r.length = 1 := by
  intro r hr
  obtain ⟨x, _, rfl⟩ := List.mem_map.1 hr
  rfl
theorem strs_rd {w : World} {B : Nat} {A : Option Addr} {l : List (List UInt8)} (h : Rd w B 1 A (l.map strC)) {k : Nat} (hk : k < l.length) :
    ∃ b off, A = some ⟨b, off, none⟩ ∧ b < B ∧ w.cell? ⟨b, off + k, none⟩ = some (.string ⟨l[k].toArray⟩) := by
  obtain ⟨b, off, e, hb, hc⟩ := h.2 (by rw [List.length_map]; omega)
  have hk' : (l.map strC)[k]? = some (strC l[k]) := by rw [List.getElem?_map, List.getElem?_eq_getElem hk]; rfl
  have := hc k _ 0 _ hk' rfl
  rw [Nat.mul_one, Nat.add_zero] at this
  exact ⟨b, off, e, hb, this⟩
theorem strs_flat (l : List (List UInt8)) : (l.map strC).flatten = l.map (fun x : List UInt8 => Value.string ⟨x.toArray⟩) := by
  induction l with
  | nil => rfl
  | cons x l ih =>
    rw [List.map_cons, List.flatten_cons, ih]
    rfl
theorem strs_at {l : List (List UInt8)} {i : Nat} (h : i < l.length) : (l.map strC)[i]? = some [.string ⟨l[i].toArray⟩] := by rw [List.getElem?_map, List.getElem?_eq_getElem h]; rfl
/-- a block that holds the rows and nothing else -/
theorem Ow.whole {w : World} {B size : Nat} {e : TypeId} (rows : List (List Value)) (hu : ∀ r ∈ rows, r.length = size) (hB : B ≤ w.heap.size) (hm : rows.length ≤ maxLen) :
    Ow (w.alloc (.cells rows.flatten.toArray e)) B e size (.slice (some ⟨w.heap.size, 0, none⟩) rows.length rows.length) rows :=
  Fill.ow ⟨rows.flatten.toArray, heap_at rfl, by simpa using flatten_size rows size hu, fun j hj => by simp⟩ hu hB hm
theorem info_str : (Tryz.prog.info? 9).map (fun i => (i.zero, i.size, i.bytes)) = some (some (.string ByteArray.empty), 1, 16) := by kernel_rfl
theorem i_Join (ls : List (List UInt8)) (A : Option Addr) (cap : Nat) (w : World) (h0 : 0 < ls.length) (hN : ls.length ≤ 1000) (hcap : ls.length ≤ cap) (hr : Rd w w.heap.size 1 A (ls.map strC)) (hlen : (Lib.join ls [32]).length ≤ 100000) :
    Calls Tryz.prog 84 #[.slice A ls.length cap, .string ⟨#[32]⟩] w fun e w' => e = .returned (.string ⟨(Lib.join ls [32]).toArray⟩) ∧ Below w.heap.size w w' := by
  obtain ⟨b, off, rfl, hb, _⟩ := strs_rd hr h0
  have e1 : (ls.map fun l : List UInt8 => (⟨l.toArray⟩ : ByteArray)).map (·.data.toList) = ls := by
    rw [List.map_map]
    conv => rhs; rw [← List.map_id ls]
    exact List.map_congr_left fun x _ => rfl
  have h := Tryz.strings_Join b off cap (ls.map fun l : List UInt8 => (⟨l.toArray⟩ : ByteArray)) ⟨#[32]⟩ w (fun j x hx => by
      rw [List.getElem?_map] at hx
      have hj : j < ls.length := by
        by_cases hj : j < ls.length
        · exact hj
        · rw [List.getElem?_eq_none (by omega)] at hx
          cases hx
      rw [List.getElem?_eq_getElem hj] at hx
      simp only [Option.map_some, Option.some.injEq] at hx
      subst hx
      obtain ⟨b', off', e', _, hc⟩ := strs_rd hr hj
      simp only [Option.some.injEq, Addr.mk.injEq] at e'
      rw [e'.1, e'.2.1]
      exact hc) hb (by rw [List.length_map]; omega) (by rw [List.length_map]; exact hcap) (by
      rw [e1]
      show (Lib.join ls [32]).length ≤ _
      omega)
  rw [e1, List.length_map] at h
  exact h
theorem i_Split (s : ByteArray) (b : UInt8) (w : World) (h : Ld w) (hs : s.size < 4294967281) : Calls Tryz.prog 56 #[.string s, .string ⟨#[b]⟩] w fun e w' =>
    e = .returned (.slice (some ⟨w.heap.size, 0, none⟩) (parts b s.data.toList).length (parts b s.data.toList).length) ∧ Ow w' w.heap.size 9 1 (.slice (some ⟨w.heap.size, 0, none⟩) (parts b s.data.toList).length (parts b s.data.toList).length) ((parts b s.data.toList).map strC) ∧ Below w.heap.size w w' := by
  obtain ⟨m, hm⟩ := h.ml
  refine (Tryz.strings_Split s ⟨#[b]⟩ m w hs hm (Nat.le_refl 1)).mono ?_
  rintro e w' ⟨rfl, rfl⟩
  rw [split_count]
  refine ⟨rfl, ?_, (Below.refl _ _).alloc (Nat.le_refl _) _⟩
  have hl := parts_len b s.data.toList
  have hz : s.data.toList.length = s.size := Array.length_toList
  have := Ow.whole (w := w) (B := w.heap.size) (e := 9) ((parts b s.data.toList).map strC) (strs_uni _) (Nat.le_refl _) (by rw [List.length_map]; unfold maxLen; omega)
  rw [strs_flat, List.length_map] at this
  rw [split_row]
  exact this
set_option maxRecDepth 100000 in
set_option maxHeartbeats 1000000 in
theorem i_withNumbers (lw : List UInt8) (s : ByteArray) (ns : List Int) (A : Option Addr) (cap : Nat) (w : World) (hld : Ld w) (hs : Str lw s) (hl : ns.length ≤ 16) (hlw : lw.length ≤ 32) (hr : Rd w w.heap.size 1 A (ns.map intCells)) :
    Calls Tryz.prog 33 #[.string s, .slice A ns.length cap] w fun e w' => e = .returned (.string ⟨(numsC lw ns).toArray⟩) ∧ Below w.heap.size w w' := by
  have HLD := Lib.hid hld
  have HR := Lib.hid hr
  have H0 := Lib.hid (show Ow (w.alloc (.cells #[.string s] 9)) w.heap.size 9 1 (.slice (some ⟨w.heap.size, 0, none⟩) ((lw :: (ns.take 0).map numL).length) 1) ((lw :: (ns.take 0).map numL).map strC) by
    rw [hs]
    exact Ow.whole [strC lw] (by simp [strC]) (Nat.le_refl _) (show 1 ≤ maxLen by decide))
  have HJ := Lib.hid (join_words lw (ns.map numL))
  have HB := Lib.hid (numsC_len lw ns)
  clear hld hr hs
  obtain ⟨i0, hi, hz0, hz1, hz2⟩ := info_parts info_str
  have HI := Lib.hid hi
  have HZ0 := Lib.hid hz0
  have HZ1 := Lib.hid hz1
  have HZ2 := Lib.hid hz2
  clear hi hz0 hz1 hz2
  go_enter Tryz.func33, Tryz.ntmps33
  go_wp2_with fail
  go_loopw [5, 12] (fun v i wr => ∃ (k : Nat) (B : Option Addr) (cp : Nat), k ≤ ns.length ∧ i = .int .i64 k ∧ v = .slice B (lw :: (ns.take k).map numL).length cp ∧ Ow wr w.heap.size 9 1 (.slice B (lw :: (ns.take k).map numL).length cp) ((lw :: (ns.take k).map numL).map strC) ∧ Below w.heap.size w wr) (fun _ i _ => ns.length - (intOf i).toNat)
  case atStart => exact ⟨0, _, _, Nat.zero_le _, rfl, rfl, H0.out, by (first | ((repeat' first | (with_reducible (first | exact Below.refl _ _ | assumption | refine Below.setCell ?_ ?_ _ | refine Below.alloc ?_ ?_ _ | refine Below.drew ?_ | refine below_drewN ?_ _ | refine Below.trans ?_ (Below.mono (by assumption) ?_))) | omega | (simp; omega) | (simp; done)); done) | (repeat' first | exact Below.refl _ _ | assumption | refine Below.setCell ?_ (by first | omega | (simp; omega) | (simp; done)) _ | refine Below.alloc ?_ (by first | omega | (simp; omega) | (simp; done)) _ | refine Below.drew ?_ | refine below_drewN ?_ _ | refine Below.trans ?_ (Below.mono (by assumption) (by first | omega | (simp; omega) | (simp; done)))))⟩
  case round =>
    obtain ⟨k, B, cp, hk, rfl, rfl, how, hbw⟩ := hrel
    have hbz := hbw.size
    have hrl : (lw :: (ns.take k).map numL).length ≤ 80 := by simp; omega
    have OB := Lib.hid how.block
    have HW := Lib.hid how
    clear how H0
    by_cases hlt : k < ns.length
    · obtain ⟨b, off, rfl, hbB, c0⟩ := ints_rd (HR.out.below hbw) hlt
      have HK := Lib.hid (show lw :: (ns.take (k + 1)).map numL = (lw :: (ns.take k).map numL) ++ [numL ns[k]] by
        rw [List.take_succ_eq_append_getElem hlt, List.map_append]
        rfl)
      obtain ⟨RS, hRS⟩ : ∃ R, (lw :: (ns.take k).map numL) = R := ⟨_, rfl⟩
      rw [hRS] at hrl OB HW HK ⊢
      clear hRS
      go_wp2_with fail
      refine (i_NumText _ _ (HLD.out.below (by (first | ((repeat' first | (with_reducible (first | exact Below.refl _ _ | assumption | refine Below.setCell ?_ ?_ _ | refine Below.alloc ?_ ?_ _ | refine Below.drew ?_ | refine below_drewN ?_ _ | refine Below.trans ?_ (Below.mono (by assumption) ?_))) | omega | (simp; omega) | (simp; done)); done) | (repeat' first | exact Below.refl _ _ | assumption | refine Below.setCell ?_ (by first | omega | (simp; omega) | (simp; done)) _ | refine Below.alloc ?_ (by first | omega | (simp; omega) | (simp; done)) _ | refine Below.drew ?_ | refine below_drewN ?_ _ | refine Below.trans ?_ (Below.mono (by assumption) (by first | omega | (simp; omega) | (simp; done)))))))).mono ?_
      rintro e w1 ⟨rfl, hb1⟩
      have z1 := hb1.size
      obtain ⟨s1, hs1', hs1⟩ := str_of (numL ns[k])
      rw [hs1']
      clear hs1'
      have hb2 : Below w.heap.size w w1 := by (first | ((repeat' first | (with_reducible (first | exact Below.refl _ _ | assumption | refine Below.setCell ?_ ?_ _ | refine Below.alloc ?_ ?_ _ | refine Below.drew ?_ | refine below_drewN ?_ _ | refine Below.trans ?_ (Below.mono (by assumption) ?_))) | omega | (simp; omega) | (simp; done)); done) | (repeat' first | exact Below.refl _ _ | assumption | refine Below.setCell ?_ (by first | omega | (simp; omega) | (simp; done)) _ | refine Below.alloc ?_ (by first | omega | (simp; omega) | (simp; done)) _ | refine Below.drew ?_ | refine below_drewN ?_ _ | refine Below.trans ?_ (Below.mono (by assumption) (by first | omega | (simp; omega) | (simp; done)))))
      have HW1 := Lib.hid (HW.out.below hb1)
      have KB := Lib.hid (fun o1 (w6 : World) (hgr : (w1.alloc o1).grownBy w6 (Value.slice B RS.length cp).ownBlock) => (hb2.alloc (by omega) o1).grown hgr (by simp; omega) (fun k e => (OB.out k e).1))
      clear hb1 HW
      go_wp2_with (at_builtin; refine wpList_app1 rfl _ _ _ rfl w.heap.size 9 i0 _ 1 16 Tryz.underlying71 HI.out HZ0.out HZ1.out HZ2.out rfl (by decide) (.slice B RS.length cp) (RS.map strC) rfl (HW1.out.alloc _) w1.heap.size 1 [.string s1] 9 rfl (heap_at (by first | rfl | (simp; done))) rfl (by simp [Value.oneCell']) (by rw [List.length_map]; omega) (by decide) (by first | omega | (simp; omega) | (simp; done)) ?_; intro g cap' w6 how6 hgr6 hat6 hlt6; rw [List.length_map] at how6; rw [List.length_map]; have hb6 := KB.out _ _ hgr6; have O6 := Lib.hid how6; clear how6 hgr6 hat6)
      go_roundw
      case rel =>
        refine ⟨k + 1, some ⟨g, 0, none⟩, cap', by omega, by go_num, by rw [HK.out, List.length_append]; rfl, ?_, hb6⟩
        rw [HK.out, List.map_append, List.length_append]
        have := O6.out
        rw [hs1.out] at this
        exact this
      case measure => simp [intOf]; omega
    · obtain rfl : k = ns.length := by omega
      rw [List.take_length] at HW ⊢
      clear OB
      have hjl : (Lib.join (lw :: ns.map numL) [32]).length ≤ 100000 := by
        rw [HJ.out]
        have := HB.out
        unfold numsC at this
        omega
      have h0 : 0 < (lw :: ns.map numL).length := by simp
      have hN : (lw :: ns.map numL).length ≤ 1000 := by simp; omega
      have HJ2 := Lib.hid (show Lib.join (lw :: ns.map numL) [32] = numsC lw ns from HJ.out)
      obtain ⟨LS, hLS⟩ : ∃ LS, lw :: ns.map numL = LS := ⟨_, rfl⟩
      rw [hLS] at HW hjl h0 hN HJ2 ⊢
      clear hLS HJ hrl
      have hcap : LS.length ≤ cp := by
        obtain ⟨A', cap'', e1, _, h2, _⟩ := HW.out.form
        rw [List.length_map] at h2
        injection e1 with _ _ e3
        omega
      have HRd := Lib.hid HW.out.rd
      go_wp2_with fail
      refine (i_Join LS _ _ _ h0 hN hcap HRd.out hjl).mono ?_
      rintro e w1 ⟨rfl, hb1⟩
      have z1 := hb1.size
      rw [HJ2.out]
      go_wp2_with fail
      go_ret
      exact ⟨rfl, by (first | ((repeat' first | (with_reducible (first | exact Below.refl _ _ | assumption | refine Below.setCell ?_ ?_ _ | refine Below.alloc ?_ ?_ _ | refine Below.drew ?_ | refine below_drewN ?_ _ | refine Below.trans ?_ (Below.mono (by assumption) ?_))) | omega | (simp; omega) | (simp; done)); done) | (repeat' first | exact Below.refl _ _ | assumption | refine Below.setCell ?_ (by first | omega | (simp; omega) | (simp; done)) _ | refine Below.alloc ?_ (by first | omega | (simp; omega) | (simp; done)) _ | refine Below.drew ?_ | refine below_drewN ?_ _ | refine Below.trans ?_ (Below.mono (by assumption) (by first | omega | (simp; omega) | (simp; done)))))⟩
end Go.Proofs.YtgpledgjpjifcaaGreatDoor
