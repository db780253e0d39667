/- Accounts read from a text: the walks of both. -/
import Derived.Test.YtgpledgjpjifcaaDoorRows
import Derived.Test.YtgpledgjpjifcaaDoorAccT
import Derived.Test.YtgpledgjpjifcaaDoorNumP
import Derived.Test.YtgpledgjpjifcaaDoorTxtP
import Derived.Test.YtgpledgjpjifcaaDoorApp
namespace Go.Proofs.YtgpledgjpjifcaaDoor
open Go.RowKit

/-- no account of a kind below k (of the kind k, below the number c) has this text -/
def NoKind (s : List UInt8) (k : Int) : Prop := ∀ k' c, k' < k → accB k' c = true → accL k' c ≠ s
def NoNum (s : List UInt8) (k c : Int) : Prop := ∀ c', c' < c → accB k c' = true → accL k c' ≠ s
theorem NoKind.zero (s : List UInt8) : NoKind s 1 := fun k' c h hb => by
  have := accB_iff.1 hb
  omega
theorem NoKind.next {s : List UInt8} {k : Int} (h : NoKind s k) (h2 : ∀ c, accB k c = true → accL k c ≠ s) : NoKind s (k + 1) := fun k' c hk hb => by
  by_cases e : k' = k
  · subst e
    exact h2 c hb
  · exact h k' c (by omega) hb
theorem NoKind.done {s : List UInt8} (h : NoKind s 9) : AccIs s 0 0 false := Or.inr ⟨rfl, rfl, rfl, fun k' c' hb => h k' c' (by have := accB_iff.1 hb; omega) hb⟩
theorem NoNum.zero (s : List UInt8) (k : Int) : NoNum s k 0 := fun c' h hb => by
  have := accB_iff.1 hb
  omega
theorem NoNum.next {s : List UInt8} {k c : Int} (h : NoNum s k c) (h2 : accB k c = true → accL k c ≠ s) : NoNum s k (c + 1) := fun c' hc hb => by
  by_cases e : c' = c
  · subst e
    exact h2 hb
  · exact h c' (by omega) hb
theorem NoNum.done {s : List UInt8} {k : Int} (h : NoNum s k 100) : ∀ c, accB k c = true → accL k c ≠ s := fun c hb => h c (by have := accB_iff.1 hb; omega) hb
theorem acc_hit {k c : Int} {s : List UInt8} (hs : s ≠ []) (h : accL k c = s) : AccIs s k c true := by
  refine Or.inl ⟨rfl, ?_, h⟩
  cases hb : accB k c with
  | true => rfl
  | false =>
    exfalso
    refine hs ?_
    rw [← h]
    unfold accL
    rw [hb]
    rfl
theorem pre_of (a b : List UInt8) : Lib.hasPrefix (a ++ b) a = true := by
  unfold Lib.hasPrefix
  simp
theorem trim_of (a b : List UInt8) : Lib.trimPrefix (a ++ b) a = b := by
  unfold Lib.trimPrefix
  rw [pre_of, if_pos rfl]
  simp
theorem acc_form {k c : Int} (h : accB k c = true) : accL k c = wordL k ++ (if 0 < c then numL c else []) := by
  unfold accL
  rw [if_pos h]
/-- the word does not stand ahead: no account of this kind -/
theorem kind_no {s : List UInt8} {k : Int} (h : Lib.hasPrefix s (wordL k) = false) : ∀ c, accB k c = true → accL k c ≠ s := by
  rintro c hb rfl
  rw [acc_form hb, pre_of] at h
  cases h
/-- the word stands ahead, but the number behind it is another -/
theorem kind_other {s : List UInt8} {k : Int} (h : accL k (numOf (Lib.trimPrefix s (wordL k))) ≠ s) : ∀ c, accB k c = true → accL k c ≠ s := by
  rintro c hb rfl
  refine h ?_
  have e : numOf (Lib.trimPrefix (accL k c) (wordL k)) = c := by
    rw [acc_form hb, trim_of]
    rcases accB_iff.1 hb with ⟨_, hc⟩ | ⟨_, rfl⟩
    · rw [if_pos (by omega)]
      exact (num_at (numB_iff.2 (by omega))).1
    · rw [if_neg (by omega)]
      exact num_empty.1
  rw [e]
theorem pre_ne {s : List UInt8} {k : Int} (hk : 1 ≤ k ∧ k ≤ 8) (h : Lib.hasPrefix s (wordL k) = true) : s ≠ [] := by
  rintro rfl
  have : k = 1 ∨ k = 2 ∨ k = 3 ∨ k = 4 ∨ k = 5 ∨ k = 6 ∨ k = 7 ∨ k = 8 := by omega
  rcases this with rfl | rfl | rfl | rfl | rfl | rfl | rfl | rfl <;> exact absurd h (by decide)
theorem trim_len (s p : List UInt8) : (Lib.trimPrefix s p).length ≤ s.length := by
  unfold Lib.trimPrefix
  split
  · simp
  · exact Nat.le_refl _
/-- an account that is read -/
def AcP (s : ByteArray) (w : World) (e : Ending) (w' : World) : Prop :=
  ∃ (k c : Int) (ok : Bool), e = .returned (.tuple #[.agg #[.int .i64 k, .int .i64 c], .bool ok]) ∧ AccIs s.data.toList k c ok ∧ Below w.heap.size w w'
theorem heap_set2 {w : World} {g : Nat} {t : TypeId} {a b : Value} (h : w.heap[g]? = some (.cells #[a, b] t (0, 0))) (u : Value) :
    (w.setCell ⟨g, 0, none⟩ u).heap[g]? = some (.cells #[u, b] t (0, 0)) ∧ (w.setCell ⟨g, 1, none⟩ u).heap[g]? = some (.cells #[a, u] t (0, 0)) :=
  ⟨heap_set h, heap_set h⟩
set_option maxRecDepth 100000 in
set_option maxHeartbeats 2000000 in
theorem s_TextAcc (s : ByteArray) (w : World) (hs : s.size ≤ 1048576) : Calls Tryd.prog 115 #[.string s] w (AcP s w) := by
  go_enter Tryd.func115, Tryd.ntmps115
  go_wp2_with fail
  go_loopw [4] (fun i wr => ∃ k : Nat, 1 ≤ k ∧ k ≤ 9 ∧ i = .int .i64 k ∧ Hid (NoKind s.data.toList k) ∧ wr.heap[w.heap.size]? = some (.cells #[.int .i64 0, .int .i64 0] 80 (0, 0)) ∧ Below w.heap.size w wr) (fun i _ => 9 - (intOf i).toNat)
  case atStart => exact ⟨1, by omega, by omega, rfl, Lib.hid (NoKind.zero _), heap_at rfl, by (first | ((repeat' first | (with_reducible (first | exact Below.refl _ _ | assumption | refine Below.setCell ?_ ?_ _ | refine Below.alloc ?_ ?_ _ | refine Below.drew ?_ | refine below_drewN ?_ _ | refine Below.trans ?_ (Below.mono (by assumption) ?_))) | omega | (simp; omega) | (simp; done)); done) | (repeat' first | exact Below.refl _ _ | assumption | refine Below.setCell ?_ (by first | omega | (simp; omega) | (simp; done)) _ | refine Below.alloc ?_ (by first | omega | (simp; omega) | (simp; done)) _ | refine Below.drew ?_ | refine below_drewN ?_ _ | refine Below.trans ?_ (Below.mono (by assumption) (by first | omega | (simp; omega) | (simp; done)))))⟩
  case round =>
    obtain ⟨k, hk1, hk9, rfl, HNK, hres, hbw⟩ := hrel
    have hbz := hbw.size
    have hrl := (Array.getElem?_eq_some_iff.1 hres).1
    have HRes := Lib.hid hres
    by_cases hlt : k ≤ 8
    · obtain ⟨wo, rfl⟩ : ∃ wo : World, wo = wr := ⟨_, rfl⟩
      have hk8 : decide ((k : Int) ≤ 8) = true := decide_eq_true (by omega)
      clear hres
      go_wp2_with fail
      go_loopw [5] (fun j wr => ∃ c : Nat, c ≤ 100 ∧ j = .int .i64 c ∧ Hid (NoNum s.data.toList k c) ∧ wr.heap[w.heap.size]? = some (.cells #[.int .i64 0, .int .i64 0] 80 (0, 0)) ∧ Below w.heap.size w wr) (fun j _ => 100 - (intOf j).toNat)
      case atStart => exact ⟨0, by omega, rfl, Lib.hid (NoNum.zero _ _), HRes.out, hbw⟩
      case round =>
        obtain ⟨c, hc, rfl, HNN, hres, hbi⟩ := hrel
        have hbj := hbi.size
        have hrj := (Array.getElem?_eq_some_iff.1 hres).1
        have HRi := Lib.hid hres
        clear hres HRes hbw
        by_cases hlc : c ≤ 99
        · cases hb : accB (k : Int) (c : Int)
          · have HB := Lib.hid hb
            have HN2 := Lib.hid (show NoNum s.data.toList k ((c : Int) + 1) from HNN.out.next (fun h => by rw [HB.out] at h; cases h))
            clear hb
            go_wp2_with fail
            refine (s_AccOk _ _ _).mono ?_
            rintro e w1 ⟨rfl, hb1⟩
            have z1 := hb1.size
            (try simp at z1)
            rw [HB.out]
            have hr1 := heap_below hb1 (by simp; omega) (heap_past hrj HRi.out)
            have hbk : Below w.heap.size w w1 := by (first | ((repeat' first | (with_reducible (first | exact Below.refl _ _ | assumption | refine Below.setCell ?_ ?_ _ | refine Below.alloc ?_ ?_ _ | refine Below.drew ?_ | refine below_drewN ?_ _ | refine Below.trans ?_ (Below.mono (by assumption) ?_))) | omega | (simp; omega) | (simp; done)); done) | (repeat' first | exact Below.refl _ _ | assumption | refine Below.setCell ?_ (by first | omega | (simp; omega) | (simp; done)) _ | refine Below.alloc ?_ (by first | omega | (simp; omega) | (simp; done)) _ | refine Below.drew ?_ | refine below_drewN ?_ _ | refine Below.trans ?_ (Below.mono (by assumption) (by first | omega | (simp; omega) | (simp; done)))))
            clear hb1
            go_wp2_with fail
            go_roundw
            case rel => exact ⟨c + 1, by omega, by go_num, Lib.hid (by simpa using HN2.out), hr1, hbk⟩
            case measure => simp [intOf]; omega
          · have HB := Lib.hid hb
            clear hb
            go_wp2_with fail
            refine (s_AccOk _ _ _).mono ?_
            rintro e w1 ⟨rfl, hb1⟩
            have z1 := hb1.size
            (try simp at z1)
            rw [HB.out]
            obtain ⟨ah, a0, a1, af, az⟩ := own2 (g := wr.heap.size) hb1 (by first | omega | (simp; omega) | (simp; done)) (by (first | ((repeat' first | (with_reducible (first | assumption | (refine heap_at ?_; (first | rfl | (simp; done))) | refine heap_drew ?_ | refine heap_drewN ?_ | refine heap_past ?_ ?_ | refine heap_far ?_ ?_)) | (simp; done) | (simp; omega)); done) | (repeat' first | assumption | (refine heap_at ?_; (simp; done)) | refine heap_drew ?_ | refine heap_drewN ?_ | (refine heap_past ?_ ?_ <;> try (simp; done)) | (refine heap_far ?_ ?_ <;> try (simp; done)))))
            have hr1 := heap_below hb1 (by simp; omega) (heap_past hrj HRi.out)
            have hbk : Below w.heap.size w w1 := by (first | ((repeat' first | (with_reducible (first | exact Below.refl _ _ | assumption | refine Below.setCell ?_ ?_ _ | refine Below.alloc ?_ ?_ _ | refine Below.drew ?_ | refine below_drewN ?_ _ | refine Below.trans ?_ (Below.mono (by assumption) ?_))) | omega | (simp; omega) | (simp; done)); done) | (repeat' first | exact Below.refl _ _ | assumption | refine Below.setCell ?_ (by first | omega | (simp; omega) | (simp; done)) _ | refine Below.alloc ?_ (by first | omega | (simp; omega) | (simp; done)) _ | refine Below.drew ?_ | refine below_drewN ?_ _ | refine Below.trans ?_ (Below.mono (by assumption) (by first | omega | (simp; omega) | (simp; done)))))
            have HR1 := Lib.hid hr1
            clear hb1 hr1
            go_wp2_with fail
            refine (s_AccText _ _ _).mono ?_
            rintro e w2 ⟨rfl, hb2⟩
            have z2 := hb2.size
            obtain ⟨t, ht', ht⟩ := str_of (accL k c)
            rw [ht']
            clear ht'
            obtain ⟨bh, b0, b1, bf, bz⟩ := own2 (g := wr.heap.size) hb2 (by first | omega | (simp; omega) | (simp; done)) (by (first | ((repeat' first | (with_reducible (first | assumption | (refine heap_at ?_; (first | rfl | (simp; done))) | refine heap_drew ?_ | refine heap_drewN ?_ | refine heap_past ?_ ?_ | refine heap_far ?_ ?_)) | (simp; done) | (simp; omega)); done) | (repeat' first | assumption | (refine heap_at ?_; (simp; done)) | refine heap_drew ?_ | refine heap_drewN ?_ | (refine heap_past ?_ ?_ <;> try (simp; done)) | (refine heap_far ?_ ?_ <;> try (simp; done)))))
            have hr2 := heap_below hb2 (by omega) HR1.out
            have hbl : Below w.heap.size w w2 := by (first | ((repeat' first | (with_reducible (first | exact Below.refl _ _ | assumption | refine Below.setCell ?_ ?_ _ | refine Below.alloc ?_ ?_ _ | refine Below.drew ?_ | refine below_drewN ?_ _ | refine Below.trans ?_ (Below.mono (by assumption) ?_))) | omega | (simp; omega) | (simp; done)); done) | (repeat' first | exact Below.refl _ _ | assumption | refine Below.setCell ?_ (by first | omega | (simp; omega) | (simp; done)) _ | refine Below.alloc ?_ (by first | omega | (simp; omega) | (simp; done)) _ | refine Below.drew ?_ | refine below_drewN ?_ _ | refine Below.trans ?_ (Below.mono (by assumption) (by first | omega | (simp; omega) | (simp; done)))))
            clear hb2 ah a0 a1 af
            by_cases et : t = s
            · have HN := Lib.hid (show AccIs s.data.toList k c true from Or.inl ⟨rfl, HB.out, eq_str ht.out et⟩)
              obtain ⟨_, g0, g1, gf, gz⟩ := own2 (g := w.heap.size) (Below.refl _ w2) (by omega) hr2
              clear hr2
              subst et
              go_wp2_with fail
              refine bodyPost_ret (v := .tuple #[.agg #[.int .i64 k, .int .i64 c], .bool true]) (by simp [results, Tryd.results115, go_sem, *]) rfl ⟨k, c, true, rfl, HN.out, ?_⟩
              (first | ((repeat' first | (with_reducible (first | exact Below.refl _ _ | assumption | refine Below.setCell ?_ ?_ _ | refine Below.alloc ?_ ?_ _ | refine Below.drew ?_ | refine below_drewN ?_ _ | refine Below.trans ?_ (Below.mono (by assumption) ?_))) | omega | (simp; omega) | (simp; done)); done) | (repeat' first | exact Below.refl _ _ | assumption | refine Below.setCell ?_ (by first | omega | (simp; omega) | (simp; done)) _ | refine Below.alloc ?_ (by first | omega | (simp; omega) | (simp; done)) _ | refine Below.drew ?_ | refine below_drewN ?_ _ | refine Below.trans ?_ (Below.mono (by assumption) (by first | omega | (simp; omega) | (simp; done)))))
            · have HN2 := Lib.hid (show NoNum s.data.toList k ((c : Int) + 1) from HNN.out.next (fun _ => ne_str ht.out et))
              have hne := neq_str et
              clear et
              go_wp2_with fail
              go_roundw
              case rel => exact ⟨c + 1, by omega, by go_num, Lib.hid (by simpa using HN2.out), hr2, hbl⟩
              case measure => simp [intOf]; omega
        · obtain rfl : c = 100 := by omega
          have HN2 := Lib.hid (show NoKind s.data.toList ((k : Int) + 1) from HNK.out.next (NoNum.done HNN.out))
          go_wp2_with fail
          go_roundw
          case rel => exact ⟨k + 1, by omega, by omega, by go_num, Lib.hid (by simpa using HN2.out), HRi.out, hbi⟩
          case measure => simp [intOf]; omega
    · obtain rfl : k = 9 := by omega
      have HN := Lib.hid (NoKind.done HNK.out)
      obtain ⟨_, a0, a1, af, az⟩ := own2 (g := w.heap.size) (Below.refl _ wr) hrl hres
      clear hres
      go_wp2_with fail
      refine bodyPost_ret (v := .tuple #[.agg #[.int .i64 0, .int .i64 0], .bool false]) (by simp [results, Tryd.results115, go_sem, *]) rfl ⟨0, 0, false, rfl, HN.out, ?_⟩
      (first | ((repeat' first | (with_reducible (first | exact Below.refl _ _ | assumption | refine Below.setCell ?_ ?_ _ | refine Below.alloc ?_ ?_ _ | refine Below.drew ?_ | refine below_drewN ?_ _ | refine Below.trans ?_ (Below.mono (by assumption) ?_))) | omega | (simp; omega) | (simp; done)); done) | (repeat' first | exact Below.refl _ _ | assumption | refine Below.setCell ?_ (by first | omega | (simp; omega) | (simp; done)) _ | refine Below.alloc ?_ (by first | omega | (simp; omega) | (simp; done)) _ | refine Below.drew ?_ | refine below_drewN ?_ _ | refine Below.trans ?_ (Below.mono (by assumption) (by first | omega | (simp; omega) | (simp; done)))))
set_option maxRecDepth 100000 in
set_option maxHeartbeats 2000000 in
theorem i_TextAcc (s : ByteArray) (w : World) (hld : Le w) (hs : s.size ≤ 1048576) : Calls Tryd.prog 118 #[.string s] w (AcP s w) := by
  have HLD := Lib.hid hld
  have hz : s.data.toList.length = s.size := Array.length_toList
  clear hld
  go_enter Tryd.func118, Tryd.ntmps118
  go_wp2_with fail
  go_loopw [4] (fun i wr => ∃ k : Nat, 1 ≤ k ∧ k ≤ 9 ∧ i = .int .i64 k ∧ Hid (NoKind s.data.toList k) ∧ wr.heap[w.heap.size]? = some (.cells #[.int .i64 0, .int .i64 0] 80 (0, 0)) ∧ Below w.heap.size w wr) (fun i _ => 9 - (intOf i).toNat)
  case atStart => exact ⟨1, by omega, by omega, rfl, Lib.hid (NoKind.zero _), heap_at rfl, by (first | ((repeat' first | (with_reducible (first | exact Below.refl _ _ | assumption | refine Below.setCell ?_ ?_ _ | refine Below.alloc ?_ ?_ _ | refine Below.drew ?_ | refine below_drewN ?_ _ | refine Below.trans ?_ (Below.mono (by assumption) ?_))) | omega | (simp; omega) | (simp; done)); done) | (repeat' first | exact Below.refl _ _ | assumption | refine Below.setCell ?_ (by first | omega | (simp; omega) | (simp; done)) _ | refine Below.alloc ?_ (by first | omega | (simp; omega) | (simp; done)) _ | refine Below.drew ?_ | refine below_drewN ?_ _ | refine Below.trans ?_ (Below.mono (by assumption) (by first | omega | (simp; omega) | (simp; done)))))⟩
  case round =>
    obtain ⟨k, hk1, hk9, rfl, HNK, hres, hbw⟩ := hrel
    have hbz := hbw.size
    have hrl := (Array.getElem?_eq_some_iff.1 hres).1
    have HRes := Lib.hid hres
    by_cases hlt : k ≤ 8
    · clear hres
      have i0 : (0 : Int) ≤ (k : Int) := by omega
      have i1 : (k : Int) < 9 := by omega
      obtain ⟨p, hp', hp⟩ := str_of (wordL k)
      obtain ⟨rest, hr', hr⟩ := str_of (Lib.trimPrefix s.data.toList (wordL k))
      have hrs : rest.size ≤ 281474976710656 := by
        have := trim_len s.data.toList (wordL k)
        rw [hr.out.size]
        omega
      have HCut := Lib.hid (fun W => Tryd.strings_CutPrefix s p W)
      have HPD := Lib.hid hp.out.data
      rw [hp.out.data, hr'] at HCut
      clear hz
      go_wp2_with fail
      refine (i_words k _ (HLD.out.below hbw).toLd (by omega)).mono ?_
      rintro e w1 ⟨rfl, hcell, hb1⟩
      have z1 := hb1.size
      rw [hp'] at hcell
      have hr1 := heap_below hb1 hrl HRes.out
      have hbA : Below w.heap.size w w1 := by (first | ((repeat' first | (with_reducible (first | exact Below.refl _ _ | assumption | refine Below.setCell ?_ ?_ _ | refine Below.alloc ?_ ?_ _ | refine Below.drew ?_ | refine below_drewN ?_ _ | refine Below.trans ?_ (Below.mono (by assumption) ?_))) | omega | (simp; omega) | (simp; done)); done) | (repeat' first | exact Below.refl _ _ | assumption | refine Below.setCell ?_ (by first | omega | (simp; omega) | (simp; done)) _ | refine Below.alloc ?_ (by first | omega | (simp; omega) | (simp; done)) _ | refine Below.drew ?_ | refine below_drewN ?_ _ | refine Below.trans ?_ (Below.mono (by assumption) (by first | omega | (simp; omega) | (simp; done)))))
      clear hb1 hp' hr'
      cases hpre : Lib.hasPrefix s.data.toList (wordL k)
      · have HN2 := Lib.hid (show NoKind s.data.toList ((k : Int) + 1) from HNK.out.next (kind_no hpre))
        rw [hpre] at HCut
        clear hpre
        go_wp2_with fail
        refine (HCut.out _).mono ?_
        rintro e w2 ⟨rfl, rfl⟩
        go_wp2_with fail
        go_roundw
        case rel => exact ⟨k + 1, by omega, by omega, by go_num, Lib.hid (by simpa using HN2.out), hr1, hbA⟩
        case measure => simp [intOf]; omega
      · have HNe := Lib.hid (pre_ne ⟨by omega, by omega⟩ hpre)
        have HOth := Lib.hid (kind_other (s := s.data.toList) (k := k))
        rw [hpre] at HCut
        clear hpre
        go_wp2_with fail
        refine (HCut.out _).mono ?_
        rintro e w2 ⟨rfl, rfl⟩
        go_wp2_with fail
        refine (i_TextNum rest _ (HLD.out.below hbA) hrs).mono ?_
        rintro e w3 ⟨rfl, hb3⟩
        have z3 := hb3.size
        rw [hr.out.data]
        obtain ⟨n, hn⟩ : ∃ n, numOf (Lib.trimPrefix s.data.toList (wordL k)) = n := ⟨_, rfl⟩
        obtain ⟨nok, hnok⟩ : ∃ n, numOk (Lib.trimPrefix s.data.toList (wordL k)) = n := ⟨_, rfl⟩
        rw [hn, hnok]
        rw [hn] at HOth
        have hr3 := heap_below hb3 (by omega) hr1
        have hbB : Below w.heap.size w w3 := by (first | ((repeat' first | (with_reducible (first | exact Below.refl _ _ | assumption | refine Below.setCell ?_ ?_ _ | refine Below.alloc ?_ ?_ _ | refine Below.drew ?_ | refine below_drewN ?_ _ | refine Below.trans ?_ (Below.mono (by assumption) ?_))) | omega | (simp; omega) | (simp; done)); done) | (repeat' first | exact Below.refl _ _ | assumption | refine Below.setCell ?_ (by first | omega | (simp; omega) | (simp; done)) _ | refine Below.alloc ?_ (by first | omega | (simp; omega) | (simp; done)) _ | refine Below.drew ?_ | refine below_drewN ?_ _ | refine Below.trans ?_ (Below.mono (by assumption) (by first | omega | (simp; omega) | (simp; done)))))
        have HR3 := Lib.hid hr3
        clear hb3 hr1 hr3 hn hnok hbA hcell
        go_wp2_with fail
        refine (i_AccText _ _ _ (HLD.out.below (by (first | ((repeat' first | (with_reducible (first | exact Below.refl _ _ | assumption | refine Below.setCell ?_ ?_ _ | refine Below.alloc ?_ ?_ _ | refine Below.drew ?_ | refine below_drewN ?_ _ | refine Below.trans ?_ (Below.mono (by assumption) ?_))) | omega | (simp; omega) | (simp; done)); done) | (repeat' first | exact Below.refl _ _ | assumption | refine Below.setCell ?_ (by first | omega | (simp; omega) | (simp; done)) _ | refine Below.alloc ?_ (by first | omega | (simp; omega) | (simp; done)) _ | refine Below.drew ?_ | refine below_drewN ?_ _ | refine Below.trans ?_ (Below.mono (by assumption) (by first | omega | (simp; omega) | (simp; done))))))).toLd).mono ?_
        rintro e w4 ⟨rfl, hb4⟩
        have z4 := hb4.size
        (try simp at z4)
        obtain ⟨t, ht', ht⟩ := str_of (accL k n)
        rw [ht']
        clear ht'
        obtain ⟨bh, b0, b1, bf, bz⟩ := own2 (g := w3.heap.size) hb4 (by first | omega | (simp; omega) | (simp; done)) (by (first | ((repeat' first | (with_reducible (first | assumption | (refine heap_at ?_; (first | rfl | (simp; done))) | refine heap_drew ?_ | refine heap_drewN ?_ | refine heap_past ?_ ?_ | refine heap_far ?_ ?_)) | (simp; done) | (simp; omega)); done) | (repeat' first | assumption | (refine heap_at ?_; (simp; done)) | refine heap_drew ?_ | refine heap_drewN ?_ | (refine heap_past ?_ ?_ <;> try (simp; done)) | (refine heap_far ?_ ?_ <;> try (simp; done)))))
        have hr4 := heap_below hb4 (by simp; omega) (heap_past (by omega) HR3.out)
        have hbC : Below w.heap.size w w4 := by (first | ((repeat' first | (with_reducible (first | exact Below.refl _ _ | assumption | refine Below.setCell ?_ ?_ _ | refine Below.alloc ?_ ?_ _ | refine Below.drew ?_ | refine below_drewN ?_ _ | refine Below.trans ?_ (Below.mono (by assumption) ?_))) | omega | (simp; omega) | (simp; done)); done) | (repeat' first | exact Below.refl _ _ | assumption | refine Below.setCell ?_ (by first | omega | (simp; omega) | (simp; done)) _ | refine Below.alloc ?_ (by first | omega | (simp; omega) | (simp; done)) _ | refine Below.drew ?_ | refine below_drewN ?_ _ | refine Below.trans ?_ (Below.mono (by assumption) (by first | omega | (simp; omega) | (simp; done)))))
        clear hb4
        by_cases et : t = s
        · have HN := Lib.hid (acc_hit HNe.out (eq_str ht.out et))
          obtain ⟨_, g0, g1, gf, gz⟩ := own2 (g := w.heap.size) (Below.refl _ w4) (by omega) hr4
          clear hr4
          subst et
          go_wp2_with fail
          refine bodyPost_ret (v := .tuple #[.agg #[.int .i64 k, .int .i64 n], .bool true]) (by simp [results, Tryd.results118, go_sem, *]) rfl ⟨k, n, true, rfl, HN.out, ?_⟩
          (first | ((repeat' first | (with_reducible (first | exact Below.refl _ _ | assumption | refine Below.setCell ?_ ?_ _ | refine Below.alloc ?_ ?_ _ | refine Below.drew ?_ | refine below_drewN ?_ _ | refine Below.trans ?_ (Below.mono (by assumption) ?_))) | omega | (simp; omega) | (simp; done)); done) | (repeat' first | exact Below.refl _ _ | assumption | refine Below.setCell ?_ (by first | omega | (simp; omega) | (simp; done)) _ | refine Below.alloc ?_ (by first | omega | (simp; omega) | (simp; done)) _ | refine Below.drew ?_ | refine below_drewN ?_ _ | refine Below.trans ?_ (Below.mono (by assumption) (by first | omega | (simp; omega) | (simp; done)))))
        · have HN2 := Lib.hid (show NoKind s.data.toList ((k : Int) + 1) from HNK.out.next (HOth.out (ne_str ht.out et)))
          have hne := neq_str et
          clear et
          go_wp2_with fail
          go_roundw
          case rel => exact ⟨k + 1, by omega, by omega, by go_num, Lib.hid (by simpa using HN2.out), hr4, hbC⟩
          case measure => simp [intOf]; omega
    · obtain rfl : k = 9 := by omega
      have HN := Lib.hid (NoKind.done HNK.out)
      obtain ⟨_, a0, a1, af, az⟩ := own2 (g := w.heap.size) (Below.refl _ wr) hrl hres
      clear hres
      clear hz
      go_wp2_with fail
      refine bodyPost_ret (v := .tuple #[.agg #[.int .i64 0, .int .i64 0], .bool false]) (by simp [results, Tryd.results118, go_sem, *]) rfl ⟨0, 0, false, rfl, HN.out, ?_⟩
      (first | ((repeat' first | (with_reducible (first | exact Below.refl _ _ | assumption | refine Below.setCell ?_ ?_ _ | refine Below.alloc ?_ ?_ _ | refine Below.drew ?_ | refine below_drewN ?_ _ | refine Below.trans ?_ (Below.mono (by assumption) ?_))) | omega | (simp; omega) | (simp; done)); done) | (repeat' first | exact Below.refl _ _ | assumption | refine Below.setCell ?_ (by first | omega | (simp; omega) | (simp; done)) _ | refine Below.alloc ?_ (by first | omega | (simp; omega) | (simp; done)) _ | refine Below.drew ?_ | refine below_drewN ?_ _ | refine Below.trans ?_ (Below.mono (by assumption) (by first | omega | (simp; omega) | (simp; done)))))
end Go.Proofs.YtgpledgjpjifcaaDoor
