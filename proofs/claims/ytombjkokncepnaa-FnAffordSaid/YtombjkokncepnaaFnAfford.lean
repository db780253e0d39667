/- For every draw: the afforded moves come in order out of those asked for; without a sound purse none: the walk. -/
import Derived.Test.YtombjkokncepnaaRows
import Derived.Test.YtombjkokncepnaaDrawA
import Derived.Test.YtombjkokncepnaaAffordS
import Derived.Test.YtombjkokncepnaaMoveEq
namespace Go.Proofs.Ytombjkokncepnaa
open Go.ChangeShapes Go.WideShapes Go.ChangeAt Go.RowKit

def gstep (r : List Move) (x : Move) : List Move := match r with
  | [] => []
  | a :: t => if mEq a x = true then t else a :: t
theorem greedy : ∀ (l m : List Move), m.Sublist l → l.foldl gstep m = []
  | [], m, h => by rw [List.sublist_nil.1 h]; rfl
  | x :: l, [], _ => greedy l [] (List.nil_sublist l)
  | x :: l, a :: t, h => by
    rw [List.foldl_cons]
    unfold gstep
    split
    · rename_i r hr
      cases hr
    · rename_i r a' t' hr
      injection hr with h1 h2
      subst h1
      subst h2
      split
      · rename_i he
        have := mEq_iff.1 he
        subst this
        exact greedy l t (List.cons_sublist_cons.1 h)
      · rename_i he
        refine greedy l (a :: t) ?_
        cases h with
        | cons _ h => exact h
        | cons_cons _ h => exact absurd (mEq_iff.2 rfl) he
theorem gstep_end {m : List Move} {I : Nat} (h : m.length ≤ I) (x : Move) : gstep (m.drop I) x = m.drop I := by
  rw [List.drop_eq_nil_of_le h]
  rfl
theorem gstep_in {m : List Move} {I : Nat} (h : I < m.length) (x : Move) : gstep (m.drop I) x = if mEq m[I] x = true then m.drop (I + 1) else m.drop I := by
  rw [List.drop_eq_getElem_cons h]
  rfl
theorem affS_sub (c s at_ : Int) (l : List Coin) (ms : List Move) : (affS c s at_ l ms).2.Sublist ms := by
  have key : ∀ (ms : List Move) (st : List Coin × List Move), ∃ t, (ms.foldl (affF c s at_) st).2 = st.2 ++ t ∧ t.Sublist ms := by
    intro ms
    induction ms with
    | nil => intro st; exact ⟨[], by simp, List.Sublist.refl _⟩
    | cons m ms ih =>
      intro st
      by_cases hc : spendCode c s at_ (moveCost m) st.1 = 0
      · obtain ⟨t, h1, h2⟩ := ih (affF c s at_ st m)
        refine ⟨m :: t, ?_, List.Sublist.cons_cons m h2⟩
        rw [List.foldl_cons, h1, affF_yes hc]
        simp
      · obtain ⟨t, h1, h2⟩ := ih (affF c s at_ st m)
        refine ⟨t, ?_, List.Sublist.cons m h2⟩
        rw [List.foldl_cons, h1, affF_no hc]
  obtain ⟨t, h1, h2⟩ := key ms (l, [])
  have : (affS c s at_ l ms).2 = t := by simpa [affS] using h1
  rw [this]
  exact h2
theorem afford_sub (c s at_ : Int) (l : List Coin) (ms : List Move) : (affordR c s at_ l ms).Sublist ms := by
  unfold affordR
  split
  · exact affS_sub c s at_ l ms
  · exact List.nil_sublist ms
theorem afford_none {c s at_ : Int} {l : List Coin} {ms : List Move} (h : purseOk c s l = false) : affordR c s at_ l ms = [] := by
  rw [affordR, if_neg (by rw [h]; decide)]
theorem gtake_succ (l : List Move) (m : List Move) {k : Nat} (hk : k < l.length) : (l.take (k + 1)).foldl gstep m = gstep ((l.take k).foldl gstep m) l[k] := foldl_take_succ l _ _ hk
set_option maxRecDepth 100000 in
set_option maxHeartbeats 4000000 in
theorem l_FnAfford (A : Option Addr) (n cap : Nat) (w : World) (hc : CodeIn w A n cap) :
    Calls Try.prog 3 #[.slice A n cap] w fun e w' => e = .returned (.bool true) ∧ Below w.heap.size w w' := by
  have hnm := hc.len
  unfold maxLen at hnm
  by_cases hn : n ≤ 1048576
  · have HC := Lib.hid (hc.code hn)
    clear hc
    go_enter Try.func3, Try.ntmps3
    go_wp2_with fail
    refine (s_DrawAfford A n cap _ HC.out).mono ?_
    rintro e w1 ⟨c, s, t, l, A1, cap1, ms, A2, cap2, rfl, hl, hms, ht, hrc, hrm, hb1⟩
    have z1 := hb1.size
    have HRC := Lib.hid hrc
    have HRM := Lib.hid hrm
    clear hrc hrm
    go_wp2_with fail
    refine (i_Afford c s t l ms A1 A2 cap1 cap2 _ (by omega) (by omega) ht ((HRC.out.below ((Below.refl _ _).alloc (Nat.le_refl _) _)).more (by simp)) ((HRM.out.below ((Below.refl _ _).alloc (Nat.le_refl _) _)).more (by simp))).mono ?_
    rintro e w2 ⟨A3, cap3, rfl, how3, hb2⟩
    have z2 := hb2.size
    rw [sizeUpP] at z2
    have HM := Lib.hid how3.rd
    clear how3
    have B2 : Below w.heap.size w w2 := (hb1.alloc z1 _).trans (hb2.mono (by simp; omega))
    have C2 : Below w1.heap.size w1 w2 := ((Below.refl _ _).alloc (Nat.le_refl _) _).trans (hb2.mono (by simp))
    have p2 : w2.heap[w1.heap.size]? = some (.cells #[.int .i64 c, .int .i64 s, .slice A1 l.length cap1] 25 (0, 0)) := heap_below hb2 (by simp) (heap_at rfl)
    clear hb1 hb2
    obtain ⟨_, k0, k1, k2, kf, kz⟩ := own3 (Below.refl w2.heap.size w2) (Array.getElem?_eq_some_iff.1 p2).1 p2
    go_wp2_with fail
    refine (s_Afford c s t l ms A1 A2 cap1 cap2 _ (by omega) (by omega) ((HRC.out.below C2).more (by omega)) ((HRM.out.below C2).more (by omega))).mono ?_
    rintro e w3 ⟨A4, cap4, rfl, _, hb3⟩
    have z3 := hb3.size
    have B3 : Below w.heap.size w w3 := B2.trans (hb3.mono (by omega))
    have C3 : Below w1.heap.size w1 w3 := C2.trans (hb3.mono (by omega))
    have p3 := heap_below hb3 (by omega) p2
    have HM3 := Lib.hid ((HM.out.below hb3).more z3)
    clear hb3 B2 C2 p2 k0 k1 k2 kf HM
    have HPN := Lib.hid (fun h => @afford_none c s t l ms h)
    have HG := Lib.hid (greedy ms _ (afford_sub c s t l ms))
    have hml := (afford_sub c s t l ms).length_le
    obtain ⟨R, hR⟩ : ∃ R, affordR c s t l ms = R := ⟨_, rfl⟩
    rw [hR] at HM3 HG hml ⊢
    simp only [hR] at HPN
    clear hR
    go_wp2_with fail
    go_loopw [7, 33] (fun j i wr => ∃ (k I : Nat), k ≤ ms.length ∧ i = .int .i64 k ∧ j = .int .i64 I ∧ I ≤ R.length ∧ Hid ((ms.take k).foldl gstep R = R.drop I) ∧ Below w.heap.size w wr ∧ Below w3.heap.size w3 wr) (fun _ i _ => ms.length - (intOf i).toNat)
    case atStart => exact ⟨0, 0, Nat.zero_le _, rfl, rfl, Nat.zero_le _, Lib.hid rfl, B3, Below.refl _ _⟩
    case round =>
      clear B3
      obtain ⟨k, I, hk, rfl, rfl, hI, HI, hbw, hbw3⟩ := hrel
      have hbz := hbw3.size
      have hw1 : Below w1.heap.size w1 wr := C3.trans (hbw3.mono (by omega))
      by_cases hlt : k < ms.length
      · obtain ⟨b, off, rfl, hbB, c0, c1, c2, c3⟩ := Move.rd (HRM.out.below hw1) hlt
        have HS := Lib.hid (gtake_succ ms R hlt)
        by_cases hIR : I < R.length
        · obtain ⟨b2, off2, rfl, hbB2, d0, d1, d2, d3⟩ := Move.rd (HM3.out.below hbw3) hIR
          have hg : decide ((I : Int) < (R.length : Int)) = true := decide_eq_true (by omega)
          have hb2w : b2 < wr.heap.size := by omega
          have hb2n : b2 ≠ wr.heap.size := by omega
          have i1 : (0 : Int) ≤ (I : Int) := by omega
          have i2 : (I : Int) < (R.length : Int) := by omega
          have HGI := Lib.hid (gstep_in hIR ms[k])
          have EQ := fun W => eq_move W R[I] ms[k]
          cases hE : mEq R[I] ms[k]
          · have HE := Lib.hid hE
            rw [hE] at EQ
            clear hE
            go_wp2_with fail
            go_quiet (fail)
            go_wp2_with fail
            go_roundw
            case rel => exact ⟨k + 1, I, by omega, by go_num, rfl, hI, Lib.hid (by rw [HS.out, HI.out, HGI.out, HE.out]; rfl), by (first | ((repeat' first | (with_reducible (first | exact Below.refl _ _ | assumption | refine Below.setCell ?_ ?_ _ | refine Below.alloc ?_ ?_ _ | refine Below.drew ?_ | refine below_drewN ?_ _ | refine Below.trans ?_ (Below.mono (by assumption) ?_))) | omega | (simp; omega) | (simp; done)); done) | (repeat' first | exact Below.refl _ _ | assumption | refine Below.setCell ?_ (by first | omega | (simp; omega) | (simp; done)) _ | refine Below.alloc ?_ (by first | omega | (simp; omega) | (simp; done)) _ | refine Below.drew ?_ | refine below_drewN ?_ _ | refine Below.trans ?_ (Below.mono (by assumption) (by first | omega | (simp; omega) | (simp; done))))), by (first | ((repeat' first | (with_reducible (first | exact Below.refl _ _ | assumption | refine Below.setCell ?_ ?_ _ | refine Below.alloc ?_ ?_ _ | refine Below.drew ?_ | refine below_drewN ?_ _ | refine Below.trans ?_ (Below.mono (by assumption) ?_))) | omega | (simp; omega) | (simp; done)); done) | (repeat' first | exact Below.refl _ _ | assumption | refine Below.setCell ?_ (by first | omega | (simp; omega) | (simp; done)) _ | refine Below.alloc ?_ (by first | omega | (simp; omega) | (simp; done)) _ | refine Below.drew ?_ | refine below_drewN ?_ _ | refine Below.trans ?_ (Below.mono (by assumption) (by first | omega | (simp; omega) | (simp; done)))))⟩
            case measure => simp [intOf]; omega
          · have HE := Lib.hid hE
            rw [hE] at EQ
            clear hE
            go_wp2_with fail
            go_quiet (fail)
            go_wp2_with fail
            go_roundw
            case rel => exact ⟨k + 1, I + 1, by omega, by go_num, by go_num, by omega, Lib.hid (by rw [HS.out, HI.out, HGI.out, HE.out]; rfl), by (first | ((repeat' first | (with_reducible (first | exact Below.refl _ _ | assumption | refine Below.setCell ?_ ?_ _ | refine Below.alloc ?_ ?_ _ | refine Below.drew ?_ | refine below_drewN ?_ _ | refine Below.trans ?_ (Below.mono (by assumption) ?_))) | omega | (simp; omega) | (simp; done)); done) | (repeat' first | exact Below.refl _ _ | assumption | refine Below.setCell ?_ (by first | omega | (simp; omega) | (simp; done)) _ | refine Below.alloc ?_ (by first | omega | (simp; omega) | (simp; done)) _ | refine Below.drew ?_ | refine below_drewN ?_ _ | refine Below.trans ?_ (Below.mono (by assumption) (by first | omega | (simp; omega) | (simp; done))))), by (first | ((repeat' first | (with_reducible (first | exact Below.refl _ _ | assumption | refine Below.setCell ?_ ?_ _ | refine Below.alloc ?_ ?_ _ | refine Below.drew ?_ | refine below_drewN ?_ _ | refine Below.trans ?_ (Below.mono (by assumption) ?_))) | omega | (simp; omega) | (simp; done)); done) | (repeat' first | exact Below.refl _ _ | assumption | refine Below.setCell ?_ (by first | omega | (simp; omega) | (simp; done)) _ | refine Below.alloc ?_ (by first | omega | (simp; omega) | (simp; done)) _ | refine Below.drew ?_ | refine below_drewN ?_ _ | refine Below.trans ?_ (Below.mono (by assumption) (by first | omega | (simp; omega) | (simp; done)))))⟩
            case measure => simp [intOf]; omega
        · have hg : decide ((I : Int) < (R.length : Int)) = false := decide_eq_false (by omega)
          go_wp2_with fail
          go_quiet (fail)
          go_wp2_with fail
          go_roundw
          case rel => exact ⟨k + 1, I, by omega, by go_num, rfl, hI, Lib.hid (by rw [HS.out, HI.out]; exact gstep_end (by omega) _), by (first | ((repeat' first | (with_reducible (first | exact Below.refl _ _ | assumption | refine Below.setCell ?_ ?_ _ | refine Below.alloc ?_ ?_ _ | refine Below.drew ?_ | refine below_drewN ?_ _ | refine Below.trans ?_ (Below.mono (by assumption) ?_))) | omega | (simp; omega) | (simp; done)); done) | (repeat' first | exact Below.refl _ _ | assumption | refine Below.setCell ?_ (by first | omega | (simp; omega) | (simp; done)) _ | refine Below.alloc ?_ (by first | omega | (simp; omega) | (simp; done)) _ | refine Below.drew ?_ | refine below_drewN ?_ _ | refine Below.trans ?_ (Below.mono (by assumption) (by first | omega | (simp; omega) | (simp; done))))), by (first | ((repeat' first | (with_reducible (first | exact Below.refl _ _ | assumption | refine Below.setCell ?_ ?_ _ | refine Below.alloc ?_ ?_ _ | refine Below.drew ?_ | refine below_drewN ?_ _ | refine Below.trans ?_ (Below.mono (by assumption) ?_))) | omega | (simp; omega) | (simp; done)); done) | (repeat' first | exact Below.refl _ _ | assumption | refine Below.setCell ?_ (by first | omega | (simp; omega) | (simp; done)) _ | refine Below.alloc ?_ (by first | omega | (simp; omega) | (simp; done)) _ | refine Below.drew ?_ | refine below_drewN ?_ _ | refine Below.trans ?_ (Below.mono (by assumption) (by first | omega | (simp; omega) | (simp; done)))))⟩
          case measure => simp [intOf]; omega
      · obtain rfl : k = ms.length := by omega
        have hII : I = R.length := by
          have h1 := HI.out
          rw [List.take_length, HG.out] at h1
          have := congrArg List.length h1
          simp at this
          omega
        subst hII
        have p4 := heap_below hbw3 (Array.getElem?_eq_some_iff.1 p3).1 p3
        obtain ⟨_, k0, k1, k2, kf, kz2⟩ := own3 (Below.refl wr.heap.size wr) (Array.getElem?_eq_some_iff.1 p4).1 p4
        cases hp : purseOk c s l
        · have hnil := HPN.out hp
          subst hnil
          go_wp2_with fail
          refine (s_PurseOk c s l A1 cap1 _ (by omega) ((HRC.out.below hw1).more (by omega))).mono ?_
          rintro e w5 ⟨rfl, hb5⟩
          rw [hp]
          go_wp2_with fail
          go_ret
          exact ⟨rfl, by (first | ((repeat' first | (with_reducible (first | exact Below.refl _ _ | assumption | refine Below.setCell ?_ ?_ _ | refine Below.alloc ?_ ?_ _ | refine Below.drew ?_ | refine below_drewN ?_ _ | refine Below.trans ?_ (Below.mono (by assumption) ?_))) | omega | (simp; omega) | (simp; done)); done) | (repeat' first | exact Below.refl _ _ | assumption | refine Below.setCell ?_ (by first | omega | (simp; omega) | (simp; done)) _ | refine Below.alloc ?_ (by first | omega | (simp; omega) | (simp; done)) _ | refine Below.drew ?_ | refine below_drewN ?_ _ | refine Below.trans ?_ (Below.mono (by assumption) (by first | omega | (simp; omega) | (simp; done)))))⟩
        · go_wp2_with fail
          refine (s_PurseOk c s l A1 cap1 _ (by omega) ((HRC.out.below hw1).more (by omega))).mono ?_
          rintro e w5 ⟨rfl, hb5⟩
          rw [hp]
          go_wp2_with fail
          go_ret
          exact ⟨rfl, by (first | ((repeat' first | (with_reducible (first | exact Below.refl _ _ | assumption | refine Below.setCell ?_ ?_ _ | refine Below.alloc ?_ ?_ _ | refine Below.drew ?_ | refine below_drewN ?_ _ | refine Below.trans ?_ (Below.mono (by assumption) ?_))) | omega | (simp; omega) | (simp; done)); done) | (repeat' first | exact Below.refl _ _ | assumption | refine Below.setCell ?_ (by first | omega | (simp; omega) | (simp; done)) _ | refine Below.alloc ?_ (by first | omega | (simp; omega) | (simp; done)) _ | refine Below.drew ?_ | refine below_drewN ?_ _ | refine Below.trans ?_ (Below.mono (by assumption) (by first | omega | (simp; omega) | (simp; done)))))⟩
  · have hn' : decide ((1048576 : Int) < (n : Int)) = true := decide_eq_true (by omega)
    go_enter Try.func3, Try.ntmps3
    go_wp2_with fail
    go_ret
    exact ⟨rfl, Below.refl _ _⟩
end Go.Proofs.Ytombjkokncepnaa
