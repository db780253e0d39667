/- Numbers read from a text: the walks of both readers. -/
import Derived.Test.YtcjbjpobpefehaaGreatDoorRows
import Derived.Test.YtcjbjpobpefehaaGreatDoorM2
import Derived.Test.YtcjbjpobpefehaaGreatDoorM1
namespace Go.Proofs.YtcjbjpobpefehaaGreatDoor
open Go.RowKit

structure Le (w : World) : Prop extends Ld w where
  es : ∃ ev, w.cell? ⟨4, 0, none⟩ = some ev ∧ (ev = .nilIface ∨ ∃ te pe, ev = .iface te pe)
  er : ∃ ev, w.cell? ⟨5, 0, none⟩ = some ev ∧ (ev = .nilIface ∨ ∃ te pe, ev = .iface te pe)
theorem Le.below {w w' : World} (h : Le w) (hb : Below w.heap.size w w') : Le w' :=
  ⟨h.toLd.below hb, h.es.imp fun _ hm => ⟨(hb.cell (p := ⟨4, 0, none⟩) (Lib.lt_of_cell hm.1)).trans hm.1, hm.2⟩, h.er.imp fun _ hm => ⟨(hb.cell (p := ⟨5, 0, none⟩) (Lib.lt_of_cell hm.1)).trans hm.1, hm.2⟩⟩
def TnP (s : ByteArray) (w : World) (e : Ending) (w' : World) : Prop :=
  e = .returned (.tuple #[.int .i64 (numOf s.data.toList), .bool (numOk s.data.toList)]) ∧ Below w.heap.size w w'
theorem TnP.mk {s : ByteArray} {w w' : World} {n : Int} {ok : Bool} (h : numOf s.data.toList = n ∧ numOk s.data.toList = ok) (hb : Below w.heap.size w w') : TnP s w (.returned (.tuple #[.int .i64 n, .bool ok])) w' := by
  unfold TnP
  rw [h.1, h.2]
  exact ⟨rfl, hb⟩
theorem neq_str {s t : ByteArray} (h : t ≠ s) : (t.toList == s.toList) = false := by
  cases k : (t.toList == s.toList) with
  | false => rfl
  | true => exact absurd ((Lib.bytes_beq_iff t s).1 k) h
theorem eq_str {l : List UInt8} {s t : ByteArray} (h : Str l t) (e : t = s) : l = s.data.toList := by
  subst e
  exact h.data.symm
theorem ne_str {l : List UInt8} {s t : ByteArray} (h : Str l t) (e : t ≠ s) : l ≠ s.data.toList := fun k => e (by
  rw [h, k])
theorem byte_at {s : ByteArray} {k : Nat} (h : k < s.size) : s.data.toList[k]? = some s[k] := by
  rw [List.getElem?_eq_getElem (by simpa using h)]
  rfl
theorem str_ne {s : ByteArray} (h : 0 < s.size) : s.data.toList ≠ [] := fun e => by
  have h1 : s.data.toList.length = 0 := by rw [e]; rfl
  have h2 : s.data.toList.length = s.size := Array.length_toList
  omega
theorem str_head {s : ByteArray} (h : 0 < s.size) : ∃ r, s.data.toList = s[0] :: r := by
  have h0 := byte_at h
  cases hl : s.data.toList with
  | nil => rw [hl] at h0; cases h0
  | cons b r =>
    rw [hl] at h0
    injection h0 with h0
    exact ⟨r, by rw [h0]⟩
theorem digit_of {b : UInt8} (h1 : 48 ≤ (b.toNat : Int)) (h2 : (b.toNat : Int) ≤ 57) : Lib.digitVal b = some (b.toNat - 48) := by
  unfold Lib.digitVal
  rw [if_pos (by omega)]
theorem digit_no {b : UInt8} (h : (b.toNat : Int) < 48 ∨ 57 < (b.toNat : Int)) : Lib.digitVal b = none := by
  unfold Lib.digitVal
  rw [if_neg (by omega)]
theorem digit_next {b : UInt8} {m : Nat} {x : Int} (h : 48 ≤ (b.toNat : Int)) (e : x = (m : Int) * 10 + ((b.toNat : Int) - 48)) : x = ((m * 10 + (b.toNat - 48) : Nat) : Int) := by omega
set_option maxRecDepth 100000 in
set_option maxHeartbeats 1000000 in
theorem s_TextNum_short (s : ByteArray) (w : World) (h : s.size < 1 ∨ 17 < s.size) : Calls Tryz.prog 83 #[.string s] w (TnP s w) := by
  have hz : s.data.toList.length = s.size := Array.length_toList
  rcases h with h | h
  · have HE := Lib.hid (show numOf s.data.toList = 0 ∧ numOk s.data.toList = false by
      have : s.data.toList = [] := List.length_eq_zero_iff.1 (by omega)
      rw [this]
      exact num_empty)
    clear hz
    go_enter Tryz.func83, Tryz.ntmps83
    go_wp2_with fail
    go_ret2
    exact TnP.mk HE.out (by (first | ((repeat' first | (with_reducible (first | exact Below.refl _ _ | assumption | refine Below.setCell ?_ ?_ _ | refine Below.alloc ?_ ?_ _ | refine Below.drew ?_ | refine below_drewN ?_ _ | refine Below.trans ?_ (Below.mono (by assumption) ?_))) | omega | (simp; omega) | (simp; done)); done) | (repeat' first | exact Below.refl _ _ | assumption | refine Below.setCell ?_ (by first | omega | (simp; omega) | (simp; done)) _ | refine Below.alloc ?_ (by first | omega | (simp; omega) | (simp; done)) _ | refine Below.drew ?_ | refine below_drewN ?_ _ | refine Below.trans ?_ (Below.mono (by assumption) (by first | omega | (simp; omega) | (simp; done))))))
  · have HE := Lib.hid (num_long (s := s.data.toList) (by omega))
    clear hz
    go_enter Tryz.func83, Tryz.ntmps83
    go_wp2_with fail
    go_ret2
    exact TnP.mk HE.out (by (first | ((repeat' first | (with_reducible (first | exact Below.refl _ _ | assumption | refine Below.setCell ?_ ?_ _ | refine Below.alloc ?_ ?_ _ | refine Below.drew ?_ | refine below_drewN ?_ _ | refine Below.trans ?_ (Below.mono (by assumption) ?_))) | omega | (simp; omega) | (simp; done)); done) | (repeat' first | exact Below.refl _ _ | assumption | refine Below.setCell ?_ (by first | omega | (simp; omega) | (simp; done)) _ | refine Below.alloc ?_ (by first | omega | (simp; omega) | (simp; done)) _ | refine Below.drew ?_ | refine below_drewN ?_ _ | refine Below.trans ?_ (Below.mono (by assumption) (by first | omega | (simp; omega) | (simp; done))))))
set_option maxRecDepth 100000 in
set_option maxHeartbeats 1000000 in
theorem s_TextNum_up (s : ByteArray) (w : World) (h1 : 1 ≤ s.size) (h2 : s.size ≤ 17) (h45 : s[0] ≠ 45) : Calls Tryz.prog 83 #[.string s] w (TnP s w) := by
  obtain ⟨r, hr⟩ := str_head h1
  have HR := Lib.hid hr
  have H45 := Lib.hid h45
  have hc : (((s[0]'h1).toNat : Int) == 45) = false := by
    rw [beq_eq_false_iff_ne]
    intro k
    exact h45 (UInt8.toNat_inj.1 (by have : (s[0]'h1).toNat = 45 := by omega
                                     simpa using this))
  have hz := Lib.hid (show s.data.toList.length = s.size from Array.length_toList)
  clear hr h45
  go_enter Tryz.func83, Tryz.ntmps83
  go_wp2_with fail
  go_loop [4, 5] (fun n i => ∃ k m : Nat, k ≤ s.size ∧ i = .int .i64 k ∧ n = .int .i64 m ∧ Hid (Lib.decFrom 0 (s.data.toList.take k) = some m)) (fun _ i => s.size - (intOf i).toNat)
  case atStart => exact ⟨0, 0, Nat.zero_le _, rfl, rfl, Lib.hid rfl⟩
  case round =>
    obtain ⟨k, m, hk, rfl, rfl, hd⟩ := hrel
    have hm := Lib.decFrom_take_lt hd.out (by omega)
    by_cases hlt : k < s.size
    · have HB := Lib.hid (byte_at hlt)
      by_cases hdig : 48 ≤ (s[k].toNat : Int) ∧ (s[k].toNat : Int) ≤ 57
      · obtain ⟨hd1, hd2⟩ := hdig
        have hn := Lib.hid (Lib.decFrom_take _ _ _ _ _ _ hd.out HB.out (digit_of hd1 hd2))
        have e1 : IntKind.u8.wrap ((s[k].toNat : Int) - 48) = (s[k].toNat : Int) - 48 := by
          simp [IntKind.wrap, IntKind.signed, IntKind.bits]
          omega
        by_cases hk0 : k = 0
        · subst hk0
          go_wp2_with fail
          go_round
          case rel => exact ⟨0 + 1, _, by omega, by go_num, congrArg _ (digit_next hd1 (by simp)), hn⟩
          case measure => simp [intOf]; omega
        · have hk1 : ((k : Int) == 0) = false := by rw [beq_eq_false_iff_ne]; omega
          clear hk0
          go_wp2_with fail
          go_round
          case rel => exact ⟨k + 1, _, by omega, by go_num, congrArg _ (digit_next hd1 rfl), hn⟩
          case measure => simp [intOf]; omega
      · have HN := Lib.hid (num_char HR.out H45.out HB.out (digit_no (by omega)))
        by_cases hk0 : k = 0
        · subst hk0
          by_cases hlo : (s[0].toNat : Int) < 48
          · go_wp2_with fail
            go_ret2
            exact TnP.mk HN.out (by (first | ((repeat' first | (with_reducible (first | exact Below.refl _ _ | assumption | refine Below.setCell ?_ ?_ _ | refine Below.alloc ?_ ?_ _ | refine Below.drew ?_ | refine below_drewN ?_ _ | refine Below.trans ?_ (Below.mono (by assumption) ?_))) | omega | (simp; omega) | (simp; done)); done) | (repeat' first | exact Below.refl _ _ | assumption | refine Below.setCell ?_ (by first | omega | (simp; omega) | (simp; done)) _ | refine Below.alloc ?_ (by first | omega | (simp; omega) | (simp; done)) _ | refine Below.drew ?_ | refine below_drewN ?_ _ | refine Below.trans ?_ (Below.mono (by assumption) (by first | omega | (simp; omega) | (simp; done))))))
          · go_wp2_with fail
            go_ret2
            exact TnP.mk HN.out (by (first | ((repeat' first | (with_reducible (first | exact Below.refl _ _ | assumption | refine Below.setCell ?_ ?_ _ | refine Below.alloc ?_ ?_ _ | refine Below.drew ?_ | refine below_drewN ?_ _ | refine Below.trans ?_ (Below.mono (by assumption) ?_))) | omega | (simp; omega) | (simp; done)); done) | (repeat' first | exact Below.refl _ _ | assumption | refine Below.setCell ?_ (by first | omega | (simp; omega) | (simp; done)) _ | refine Below.alloc ?_ (by first | omega | (simp; omega) | (simp; done)) _ | refine Below.drew ?_ | refine below_drewN ?_ _ | refine Below.trans ?_ (Below.mono (by assumption) (by first | omega | (simp; omega) | (simp; done))))))
        · have hk1 : ((k : Int) == 0) = false := by rw [beq_eq_false_iff_ne]; omega
          clear hk0
          by_cases hlo : (s[k].toNat : Int) < 48
          · go_wp2_with fail
            go_ret2
            exact TnP.mk HN.out (by (first | ((repeat' first | (with_reducible (first | exact Below.refl _ _ | assumption | refine Below.setCell ?_ ?_ _ | refine Below.alloc ?_ ?_ _ | refine Below.drew ?_ | refine below_drewN ?_ _ | refine Below.trans ?_ (Below.mono (by assumption) ?_))) | omega | (simp; omega) | (simp; done)); done) | (repeat' first | exact Below.refl _ _ | assumption | refine Below.setCell ?_ (by first | omega | (simp; omega) | (simp; done)) _ | refine Below.alloc ?_ (by first | omega | (simp; omega) | (simp; done)) _ | refine Below.drew ?_ | refine below_drewN ?_ _ | refine Below.trans ?_ (Below.mono (by assumption) (by first | omega | (simp; omega) | (simp; done))))))
          · go_wp2_with fail
            go_ret2
            exact TnP.mk HN.out (by (first | ((repeat' first | (with_reducible (first | exact Below.refl _ _ | assumption | refine Below.setCell ?_ ?_ _ | refine Below.alloc ?_ ?_ _ | refine Below.drew ?_ | refine below_drewN ?_ _ | refine Below.trans ?_ (Below.mono (by assumption) ?_))) | omega | (simp; omega) | (simp; done)); done) | (repeat' first | exact Below.refl _ _ | assumption | refine Below.setCell ?_ (by first | omega | (simp; omega) | (simp; done)) _ | refine Below.alloc ?_ (by first | omega | (simp; omega) | (simp; done)) _ | refine Below.drew ?_ | refine below_drewN ?_ _ | refine Below.trans ?_ (Below.mono (by assumption) (by first | omega | (simp; omega) | (simp; done))))))
    · obtain rfl : k = s.size := by omega
      have HD := Lib.hid (show Lib.decFrom 0 s.data.toList = some m by
        have := hd.out
        rwa [List.take_of_length_le (by rw [hz.out]; exact Nat.le_refl _)] at this)
      go_wp2_with fail
      refine (s_NumText _ _).mono ?_
      rintro e w1 ⟨rfl, hb1⟩
      obtain ⟨t, ht', ht⟩ := str_of (numL (m : Int))
      rw [ht']
      clear ht'
      by_cases e : t = s
      · have HN := Lib.hid (num_up_hit (str_ne h1) (eq_str ht.out e))
        subst e
        go_wp2_with fail
        go_ret2
        exact TnP.mk HN.out (by (first | ((repeat' first | (with_reducible (first | exact Below.refl _ _ | assumption | refine Below.setCell ?_ ?_ _ | refine Below.alloc ?_ ?_ _ | refine Below.drew ?_ | refine below_drewN ?_ _ | refine Below.trans ?_ (Below.mono (by assumption) ?_))) | omega | (simp; omega) | (simp; done)); done) | (repeat' first | exact Below.refl _ _ | assumption | refine Below.setCell ?_ (by first | omega | (simp; omega) | (simp; done)) _ | refine Below.alloc ?_ (by first | omega | (simp; omega) | (simp; done)) _ | refine Below.drew ?_ | refine below_drewN ?_ _ | refine Below.trans ?_ (Below.mono (by assumption) (by first | omega | (simp; omega) | (simp; done))))))
      · have HN := Lib.hid (num_up_miss HR.out H45.out HD.out (ne_str ht.out e))
        have hne := neq_str e
        clear e
        go_wp2_with fail
        go_ret2
        exact TnP.mk HN.out (by (first | ((repeat' first | (with_reducible (first | exact Below.refl _ _ | assumption | refine Below.setCell ?_ ?_ _ | refine Below.alloc ?_ ?_ _ | refine Below.drew ?_ | refine below_drewN ?_ _ | refine Below.trans ?_ (Below.mono (by assumption) ?_))) | omega | (simp; omega) | (simp; done)); done) | (repeat' first | exact Below.refl _ _ | assumption | refine Below.setCell ?_ (by first | omega | (simp; omega) | (simp; done)) _ | refine Below.alloc ?_ (by first | omega | (simp; omega) | (simp; done)) _ | refine Below.drew ?_ | refine below_drewN ?_ _ | refine Below.trans ?_ (Below.mono (by assumption) (by first | omega | (simp; omega) | (simp; done))))))
set_option maxRecDepth 100000 in
set_option maxHeartbeats 1000000 in
theorem s_TextNum_down (s : ByteArray) (w : World) (h1 : 1 ≤ s.size) (h2 : s.size ≤ 17) (h45 : s[0] = 45) : Calls Tryz.prog 83 #[.string s] w (TnP s w) := by
  obtain ⟨r, hr⟩ := str_head h1
  rw [h45] at hr
  have HR := Lib.hid hr
  have hc : (s[0]'h1).toNat = 45 := by rw [h45]; rfl
  have hz := Lib.hid (show s.data.toList.length = s.size from Array.length_toList)
  have hzr := Lib.hid (show r.length + 1 = s.size by rw [← hz.out, hr]; rfl)
  clear hr h45
  go_enter Tryz.func83, Tryz.ntmps83
  go_wp2_with fail
  go_loop [4, 5] (fun n i => ∃ k m : Nat, k ≤ s.size ∧ i = .int .i64 k ∧ n = .int .i64 m ∧ Hid (Lib.decFrom 0 (r.take (k - 1)) = some m)) (fun _ i => s.size - (intOf i).toNat)
  case atStart => exact ⟨0, 0, Nat.zero_le _, rfl, rfl, Lib.hid rfl⟩
  case round =>
    obtain ⟨k, m, hk, rfl, rfl, hd⟩ := hrel
    have hm := Lib.decFrom_take_lt hd.out (by omega)
    by_cases hk0 : k = 0
    · subst hk0
      go_wp2_with fail
      go_round
      case rel => exact ⟨0 + 1, m, by omega, by go_num, rfl, hd⟩
      case measure => simp [intOf]; omega
    · have hk1 : ((k : Int) == 0) = false := by rw [beq_eq_false_iff_ne]; omega
      by_cases hlt : k < s.size
      · obtain ⟨j, rfl⟩ : ∃ j, k = j + 1 := ⟨k - 1, by omega⟩
        have HB := Lib.hid (show r[j]? = some s[j + 1] by
          have := byte_at hlt
          rw [HR.out] at this
          simpa using this)
        have HJ : Hid (Lib.decFrom 0 (r.take j) = some m) := Lib.hid (by simpa using hd.out)
        clear hk0 hd
        by_cases hdig : 48 ≤ (s[j + 1].toNat : Int) ∧ (s[j + 1].toNat : Int) ≤ 57
        · obtain ⟨hd1, hd2⟩ := hdig
          have hn := Lib.hid (Lib.decFrom_take _ _ _ _ _ _ HJ.out HB.out (digit_of hd1 hd2))
          have e1 : IntKind.u8.wrap ((s[j + 1].toNat : Int) - 48) = (s[j + 1].toNat : Int) - 48 := by
            simp [IntKind.wrap, IntKind.signed, IntKind.bits]
            omega
          go_wp2_with fail
          go_round
          case rel => exact ⟨j + 1 + 1, _, by omega, by go_num, congrArg _ (digit_next hd1 rfl), hn⟩
          case measure => simp [intOf]; omega
        · have HN := Lib.hid (show numOf s.data.toList = 0 ∧ numOk s.data.toList = false by rw [HR.out]; exact num_char_minus HB.out (digit_no (by omega)))
          by_cases hlo : (s[j + 1].toNat : Int) < 48
          · go_wp2_with fail
            go_ret2
            exact TnP.mk HN.out (by (first | ((repeat' first | (with_reducible (first | exact Below.refl _ _ | assumption | refine Below.setCell ?_ ?_ _ | refine Below.alloc ?_ ?_ _ | refine Below.drew ?_ | refine below_drewN ?_ _ | refine Below.trans ?_ (Below.mono (by assumption) ?_))) | omega | (simp; omega) | (simp; done)); done) | (repeat' first | exact Below.refl _ _ | assumption | refine Below.setCell ?_ (by first | omega | (simp; omega) | (simp; done)) _ | refine Below.alloc ?_ (by first | omega | (simp; omega) | (simp; done)) _ | refine Below.drew ?_ | refine below_drewN ?_ _ | refine Below.trans ?_ (Below.mono (by assumption) (by first | omega | (simp; omega) | (simp; done))))))
          · go_wp2_with fail
            go_ret2
            exact TnP.mk HN.out (by (first | ((repeat' first | (with_reducible (first | exact Below.refl _ _ | assumption | refine Below.setCell ?_ ?_ _ | refine Below.alloc ?_ ?_ _ | refine Below.drew ?_ | refine below_drewN ?_ _ | refine Below.trans ?_ (Below.mono (by assumption) ?_))) | omega | (simp; omega) | (simp; done)); done) | (repeat' first | exact Below.refl _ _ | assumption | refine Below.setCell ?_ (by first | omega | (simp; omega) | (simp; done)) _ | refine Below.alloc ?_ (by first | omega | (simp; omega) | (simp; done)) _ | refine Below.drew ?_ | refine below_drewN ?_ _ | refine Below.trans ?_ (Below.mono (by assumption) (by first | omega | (simp; omega) | (simp; done))))))
      · obtain rfl : k = s.size := by omega
        have HD := Lib.hid (show Lib.decFrom 0 r = some m by
          have := hd.out
          rwa [List.take_of_length_le (by have := hzr.out; omega)] at this)
        go_wp2_with fail
        refine (s_NumText _ _).mono ?_
        rintro e w1 ⟨rfl, hb1⟩
        obtain ⟨t, ht', ht⟩ := str_of (numL (-(m : Int)))
        rw [ht']
        clear ht'
        by_cases e : t = s
        · have HN := Lib.hid (num_up_hit (str_ne h1) (eq_str ht.out e))
          subst e
          go_wp2_with fail
          go_ret2
          exact TnP.mk HN.out (by (first | ((repeat' first | (with_reducible (first | exact Below.refl _ _ | assumption | refine Below.setCell ?_ ?_ _ | refine Below.alloc ?_ ?_ _ | refine Below.drew ?_ | refine below_drewN ?_ _ | refine Below.trans ?_ (Below.mono (by assumption) ?_))) | omega | (simp; omega) | (simp; done)); done) | (repeat' first | exact Below.refl _ _ | assumption | refine Below.setCell ?_ (by first | omega | (simp; omega) | (simp; done)) _ | refine Below.alloc ?_ (by first | omega | (simp; omega) | (simp; done)) _ | refine Below.drew ?_ | refine below_drewN ?_ _ | refine Below.trans ?_ (Below.mono (by assumption) (by first | omega | (simp; omega) | (simp; done))))))
        · have HN := Lib.hid (show numOf s.data.toList = 0 ∧ numOk s.data.toList = false by
            have h := ne_str ht.out e
            rw [HR.out] at h ⊢
            exact num_down_miss HD.out h)
          have hne := neq_str e
          clear e
          go_wp2_with fail
          go_ret2
          exact TnP.mk HN.out (by (first | ((repeat' first | (with_reducible (first | exact Below.refl _ _ | assumption | refine Below.setCell ?_ ?_ _ | refine Below.alloc ?_ ?_ _ | refine Below.drew ?_ | refine below_drewN ?_ _ | refine Below.trans ?_ (Below.mono (by assumption) ?_))) | omega | (simp; omega) | (simp; done)); done) | (repeat' first | exact Below.refl _ _ | assumption | refine Below.setCell ?_ (by first | omega | (simp; omega) | (simp; done)) _ | refine Below.alloc ?_ (by first | omega | (simp; omega) | (simp; done)) _ | refine Below.drew ?_ | refine below_drewN ?_ _ | refine Below.trans ?_ (Below.mono (by assumption) (by first | omega | (simp; omega) | (simp; done))))))
theorem s_TextNum (s : ByteArray) (w : World) : Calls Tryz.prog 83 #[.string s] w (TnP s w) := by
  by_cases h : s.size < 1 ∨ 17 < s.size
  · exact s_TextNum_short s w h
  · by_cases h45 : s[0]'(by omega) = 45
    · exact s_TextNum_down s w (by omega) (by omega) h45
    · exact s_TextNum_up s w (by omega) (by omega) h45
set_option maxHeartbeats 1000000 in
theorem i_TextNum_ok (s : ByteArray) (w : World) (h : Ld w) (hs : s.size ≤ 281474976710656) (v : Int) (hv : Lib.atoiAll s.data.toList = .ok v) : Calls Tryz.prog 82 #[.string s] w (TnP s w) := by
  have HA := Lib.hid (Tryz.strconv_Atoi_ok s (by omega) v hv w)
  have HV := Lib.hid hv
  have HL := Lib.hid h
  clear hv h
  go_enter Tryz.func82, Tryz.ntmps82
  go_wp2_with fail
  refine HA.out.mono ?_
  rintro e w1 ⟨rfl, hw⟩
  have hb : Below w.heap.size w w1 := by
    rcases hw with rfl | ⟨t, rfl⟩
    · exact Below.refl _ _
    · exact Lib.bytesWorld_below _ _ _
  clear hw
  go_wp2_with fail
  refine (i_NumText _ _ (HL.out.below (by (first | ((repeat' first | (with_reducible (first | exact Below.refl _ _ | assumption | refine Below.setCell ?_ ?_ _ | refine Below.alloc ?_ ?_ _ | refine Below.drew ?_ | refine below_drewN ?_ _ | refine Below.trans ?_ (Below.mono (by assumption) ?_))) | omega | (simp; omega) | (simp; done)); done) | (repeat' first | exact Below.refl _ _ | assumption | refine Below.setCell ?_ (by first | omega | (simp; omega) | (simp; done)) _ | refine Below.alloc ?_ (by first | omega | (simp; omega) | (simp; done)) _ | refine Below.drew ?_ | refine below_drewN ?_ _ | refine Below.trans ?_ (Below.mono (by assumption) (by first | omega | (simp; omega) | (simp; done)))))))).mono ?_
  rintro e w2 ⟨rfl, hb2⟩
  obtain ⟨t, ht', ht⟩ := str_of (numL v)
  rw [ht']
  clear ht'
  by_cases e : t = s
  · have HN := Lib.hid (num_hit HV.out (eq_str ht.out e))
    subst e
    go_wp2_with fail
    go_ret2
    exact TnP.mk HN.out (hb.trans (hb2.mono hb.size))
  · have HN := Lib.hid (num_miss HV.out (ne_str ht.out e))
    have hne := neq_str e
    clear e
    go_wp2_with fail
    go_ret2
    exact TnP.mk HN.out (hb.trans (hb2.mono hb.size))
set_option maxHeartbeats 1000000 in
theorem i_TextNum_no (s : ByteArray) (w : World) (hv : ∀ v, Lib.atoiAll s.data.toList ≠ .ok v) (hA : ∃ n : Int, Calls Tryz.prog 102 #[.string s] w fun e w' => ∃ (N : Nat) (t : TypeId), e = .returned (.tuple #[.int .i64 n, .iface t (.pointer (some ⟨N, 0, none⟩))]) ∧ Below w.heap.size w w') :
    Calls Tryz.prog 82 #[.string s] w (TnP s w) := by
  have HN := Lib.hid (num_bad hv)
  obtain ⟨n, hA⟩ := hA
  have HA := Lib.hid hA
  clear hv hA
  go_enter Tryz.func82, Tryz.ntmps82
  go_wp2_with fail
  refine HA.out.mono ?_
  rintro e w1 ⟨N, t, rfl, hb⟩
  go_wp2_with fail
  go_ret2
  exact TnP.mk HN.out (by (first | ((repeat' first | (with_reducible (first | exact Below.refl _ _ | assumption | refine Below.setCell ?_ ?_ _ | refine Below.alloc ?_ ?_ _ | refine Below.drew ?_ | refine below_drewN ?_ _ | refine Below.trans ?_ (Below.mono (by assumption) ?_))) | omega | (simp; omega) | (simp; done)); done) | (repeat' first | exact Below.refl _ _ | assumption | refine Below.setCell ?_ (by first | omega | (simp; omega) | (simp; done)) _ | refine Below.alloc ?_ (by first | omega | (simp; omega) | (simp; done)) _ | refine Below.drew ?_ | refine below_drewN ?_ _ | refine Below.trans ?_ (Below.mono (by assumption) (by first | omega | (simp; omega) | (simp; done))))))
theorem i_TextNum (s : ByteArray) (w : World) (h : Le w) (hs : s.size ≤ 281474976710656) : Calls Tryz.prog 82 #[.string s] w (TnP s w) := by
  rcases hv : Lib.atoiAll s.data.toList with v | _ | _
  · exact i_TextNum_ok s w h.toLd hs v hv
  · obtain ⟨ev, h1, h2⟩ := h.es
    exact i_TextNum_no s w (fun v k => by rw [hv] at k; cases k) ⟨0, (Tryz.strconv_Atoi_syntax s hs hv ev w h1 h2).mono fun e w' ⟨N, a, _, _, b⟩ => ⟨N, _, a, b⟩⟩
  · obtain ⟨ev, h1, h2⟩ := h.er
    exact i_TextNum_no s w (fun v k => by rw [hv] at k; cases k) ⟨_, (Tryz.strconv_Atoi_range s hs hv ev w h1 h2).mono fun e w' ⟨N, a, _, _, b⟩ => ⟨N, _, a, b⟩⟩
end Go.Proofs.YtcjbjpobpefehaaGreatDoor
