/- BookL · Bookp · NumI · AccT · Bk · BookA · LdRow · TxtB · OwB · Strs · TxtQ · TxtBR: each text proves what its theorems say, with no conditions but theirs. -/
import Derived.Test.YtcjbjpobpefehaaGreatDoorRows
import Derived.Test.YtcjbjpobpefehaaGreatDoorBookF
import Derived.Test.YtcjbjpobpefehaaGreatDoorM1
import Derived.Test.YtcjbjpobpefehaaGreatDoorNumS
import Derived.Test.YtcjbjpobpefehaaGreatDoorShelf
import Derived.Deep.RegionHeld3
import Derived.Lib.Join
import Derived.Deep.AppendLies
namespace Go.Proofs.YtcjbjpobpefehaaGreatDoor
open Go.RowKit
set_option maxRecDepth 100000 in
set_option maxHeartbeats 2000000 in
theorem l_eqBook (bt bn bw : Int) (cs : List Chan) (hs : List Htlc) (os : List Circle) (A1 A2 A3 B1 B2 B3 : Option Addr) (p1 p2 p3 q1 q2 q3 : Nat) (w : World) (hlc : cs.length ≤ 1048576) (hlh : hs.length ≤ 1048576) (hlo : os.length ≤ 1048576) (hr : RdBook w w.heap.size A1 cs A2 hs A3 os) (hr2 : RdBook w w.heap.size B1 cs B2 hs B3 os) :
    Calls Tryz.prog 13 #[.agg #[.int .i64 bt, .int .i64 bn, .int .i64 bw, .slice A1 cs.length p1, .slice A2 hs.length p2, .slice A3 os.length p3], .agg #[.int .i64 bt, .int .i64 bn, .int .i64 bw, .slice B1 cs.length q1, .slice B2 hs.length q2, .slice B3 os.length q3]] w fun e w' => e = .returned (.bool true) ∧ Below w.heap.size w w' := by
  have HR := Lib.hid hr
  have HS := Lib.hid hr2
  clear hr hr2
  go_enter Tryz.func13, Tryz.ntmps13
  go_wp2_with fail
  refine (l_eqChanS cs _ _ _ _ _ hlc ((HR.out.c.below (by (first | ((repeat' first | (with_reducible (first | exact Below.refl _ _ | assumption | refine Below.setCell ?_ ?_ _ | refine Below.alloc ?_ ?_ _ | refine Below.drew ?_ | refine below_drewN ?_ _ | refine Below.trans ?_ (Below.mono (by assumption) ?_))) | omega | (simp; omega) | (simp; done)); done) | (repeat' first | exact Below.refl _ _ | assumption | refine Below.setCell ?_ (by first | omega | (simp; omega) | (simp; done)) _ | refine Below.alloc ?_ (by first | omega | (simp; omega) | (simp; done)) _ | refine Below.drew ?_ | refine below_drewN ?_ _ | refine Below.trans ?_ (Below.mono (by assumption) (by first | omega | (simp; omega) | (simp; done))))))).more (by first | omega | (simp; omega) | (simp; done))) ((HS.out.c.below (by (first | ((repeat' first | (with_reducible (first | exact Below.refl _ _ | assumption | refine Below.setCell ?_ ?_ _ | refine Below.alloc ?_ ?_ _ | refine Below.drew ?_ | refine below_drewN ?_ _ | refine Below.trans ?_ (Below.mono (by assumption) ?_))) | omega | (simp; omega) | (simp; done)); done) | (repeat' first | exact Below.refl _ _ | assumption | refine Below.setCell ?_ (by first | omega | (simp; omega) | (simp; done)) _ | refine Below.alloc ?_ (by first | omega | (simp; omega) | (simp; done)) _ | refine Below.drew ?_ | refine below_drewN ?_ _ | refine Below.trans ?_ (Below.mono (by assumption) (by first | omega | (simp; omega) | (simp; done))))))).more (by first | omega | (simp; omega) | (simp; done)))).mono ?_
  rintro e w1 ⟨rfl, hb1⟩
  have z1 := hb1.size
  try simp at z1
  obtain ⟨k0h, k00, k01, k02, k03, k04, k05, k0f, k0z⟩ := own6 (g := w.heap.size) hb1 (by first | omega | (simp; omega) | (simp; done)) (by (first | ((repeat' first | (with_reducible (first | assumption | (refine heap_at ?_; (first | rfl | (simp; done))) | refine heap_drew ?_ | refine heap_drewN ?_ | refine heap_past ?_ ?_ | refine heap_far ?_ ?_)) | (simp; done) | (simp; omega)); done) | (repeat' first | assumption | (refine heap_at ?_; (simp; done)) | refine heap_drew ?_ | refine heap_drewN ?_ | (refine heap_past ?_ ?_ <;> try (simp; done)) | (refine heap_far ?_ ?_ <;> try (simp; done)))))
  obtain ⟨j0h, j00, j01, j02, j03, j04, j05, j0f, j0z⟩ := own6 (g := w.heap.size + 1) hb1 (by first | omega | (simp; omega) | (simp; done)) (by (first | ((repeat' first | (with_reducible (first | assumption | (refine heap_at ?_; (first | rfl | (simp; done))) | refine heap_drew ?_ | refine heap_drewN ?_ | refine heap_past ?_ ?_ | refine heap_far ?_ ?_)) | (simp; done) | (simp; omega)); done) | (repeat' first | assumption | (refine heap_at ?_; (simp; done)) | refine heap_drew ?_ | refine heap_drewN ?_ | (refine heap_past ?_ ?_ <;> try (simp; done)) | (refine heap_far ?_ ?_ <;> try (simp; done)))))
  go_wp2_with fail
  refine (l_eqHtlcS hs _ _ _ _ _ hlh ((HR.out.h.below (by (first | ((repeat' first | (with_reducible (first | exact Below.refl _ _ | assumption | refine Below.setCell ?_ ?_ _ | refine Below.alloc ?_ ?_ _ | refine Below.drew ?_ | refine below_drewN ?_ _ | refine Below.trans ?_ (Below.mono (by assumption) ?_))) | omega | (simp; omega) | (simp; done)); done) | (repeat' first | exact Below.refl _ _ | assumption | refine Below.setCell ?_ (by first | omega | (simp; omega) | (simp; done)) _ | refine Below.alloc ?_ (by first | omega | (simp; omega) | (simp; done)) _ | refine Below.drew ?_ | refine below_drewN ?_ _ | refine Below.trans ?_ (Below.mono (by assumption) (by first | omega | (simp; omega) | (simp; done))))))).more (by first | omega | (simp; omega) | (simp; done))) ((HS.out.h.below (by (first | ((repeat' first | (with_reducible (first | exact Below.refl _ _ | assumption | refine Below.setCell ?_ ?_ _ | refine Below.alloc ?_ ?_ _ | refine Below.drew ?_ | refine below_drewN ?_ _ | refine Below.trans ?_ (Below.mono (by assumption) ?_))) | omega | (simp; omega) | (simp; done)); done) | (repeat' first | exact Below.refl _ _ | assumption | refine Below.setCell ?_ (by first | omega | (simp; omega) | (simp; done)) _ | refine Below.alloc ?_ (by first | omega | (simp; omega) | (simp; done)) _ | refine Below.drew ?_ | refine below_drewN ?_ _ | refine Below.trans ?_ (Below.mono (by assumption) (by first | omega | (simp; omega) | (simp; done))))))).more (by first | omega | (simp; omega) | (simp; done)))).mono ?_
  rintro e w2 ⟨rfl, hb2⟩
  have z2 := hb2.size
  try simp at z2
  obtain ⟨k1h, k10, k11, k12, k13, k14, k15, k1f, k1z⟩ := own6 (g := w.heap.size) hb2 (by first | omega | (simp; omega) | (simp; done)) (by (first | ((repeat' first | (with_reducible (first | assumption | (refine heap_at ?_; (first | rfl | (simp; done))) | refine heap_drew ?_ | refine heap_drewN ?_ | refine heap_past ?_ ?_ | refine heap_far ?_ ?_)) | (simp; done) | (simp; omega)); done) | (repeat' first | assumption | (refine heap_at ?_; (simp; done)) | refine heap_drew ?_ | refine heap_drewN ?_ | (refine heap_past ?_ ?_ <;> try (simp; done)) | (refine heap_far ?_ ?_ <;> try (simp; done)))))
  obtain ⟨j1h, j10, j11, j12, j13, j14, j15, j1f, j1z⟩ := own6 (g := w.heap.size + 1) hb2 (by first | omega | (simp; omega) | (simp; done)) (by (first | ((repeat' first | (with_reducible (first | assumption | (refine heap_at ?_; (first | rfl | (simp; done))) | refine heap_drew ?_ | refine heap_drewN ?_ | refine heap_past ?_ ?_ | refine heap_far ?_ ?_)) | (simp; done) | (simp; omega)); done) | (repeat' first | assumption | (refine heap_at ?_; (simp; done)) | refine heap_drew ?_ | refine heap_drewN ?_ | (refine heap_past ?_ ?_ <;> try (simp; done)) | (refine heap_far ?_ ?_ <;> try (simp; done)))))
  clear k0h k00 k01 k02 k03 k04 k05 k0f k0z j0h j00 j01 j02 j03 j04 j05 j0f j0z
  go_wp2_with fail
  refine (l_eqCircleS os _ _ _ _ _ hlo ((HR.out.o.below (by (first | ((repeat' first | (with_reducible (first | exact Below.refl _ _ | assumption | refine Below.setCell ?_ ?_ _ | refine Below.alloc ?_ ?_ _ | refine Below.drew ?_ | refine below_drewN ?_ _ | refine Below.trans ?_ (Below.mono (by assumption) ?_))) | omega | (simp; omega) | (simp; done)); done) | (repeat' first | exact Below.refl _ _ | assumption | refine Below.setCell ?_ (by first | omega | (simp; omega) | (simp; done)) _ | refine Below.alloc ?_ (by first | omega | (simp; omega) | (simp; done)) _ | refine Below.drew ?_ | refine below_drewN ?_ _ | refine Below.trans ?_ (Below.mono (by assumption) (by first | omega | (simp; omega) | (simp; done))))))).more (by first | omega | (simp; omega) | (simp; done))) ((HS.out.o.below (by (first | ((repeat' first | (with_reducible (first | exact Below.refl _ _ | assumption | refine Below.setCell ?_ ?_ _ | refine Below.alloc ?_ ?_ _ | refine Below.drew ?_ | refine below_drewN ?_ _ | refine Below.trans ?_ (Below.mono (by assumption) ?_))) | omega | (simp; omega) | (simp; done)); done) | (repeat' first | exact Below.refl _ _ | assumption | refine Below.setCell ?_ (by first | omega | (simp; omega) | (simp; done)) _ | refine Below.alloc ?_ (by first | omega | (simp; omega) | (simp; done)) _ | refine Below.drew ?_ | refine below_drewN ?_ _ | refine Below.trans ?_ (Below.mono (by assumption) (by first | omega | (simp; omega) | (simp; done))))))).more (by first | omega | (simp; omega) | (simp; done)))).mono ?_
  rintro e w3 ⟨rfl, hb3⟩
  have z3 := hb3.size
  try simp at z3
  go_wp2_with fail
  go_ret
  refine ⟨rfl, ?_⟩
  (first | ((repeat' first | (with_reducible (first | exact Below.refl _ _ | assumption | refine Below.setCell ?_ ?_ _ | refine Below.alloc ?_ ?_ _ | refine Below.drew ?_ | refine below_drewN ?_ _ | refine Below.trans ?_ (Below.mono (by assumption) ?_))) | omega | (simp; omega) | (simp; done)); done) | (repeat' first | exact Below.refl _ _ | assumption | refine Below.setCell ?_ (by first | omega | (simp; omega) | (simp; done)) _ | refine Below.alloc ?_ (by first | omega | (simp; omega) | (simp; done)) _ | refine Below.drew ?_ | refine below_drewN ?_ _ | refine Below.trans ?_ (Below.mono (by assumption) (by first | omega | (simp; omega) | (simp; done)))))
end Go.Proofs.YtcjbjpobpefehaaGreatDoor

namespace Go.Proofs.YtcjbjpobpefehaaGreatDoor
open Go.RowKit

/-! ### Places, sums -/
def notId (ch : Int) (c : Chan) : Bool := c.Id != ch
def chanIx (cs : List Chan) (ch : Int) : Int := match cs.findIdx? (fun c => !notId ch c) with | some i => (i : Int) | none => -1
theorem chanIx_none {cs : List Chan} {ch : Int} (h : (cs.take cs.length).all (notId ch) = true) : chanIx cs ch = -1 := by
  rw [List.take_length] at h
  have : cs.findIdx? (fun c => !notId ch c) = none := by
    rw [List.findIdx?_eq_none_iff]
    intro x hx
    simp [List.all_eq_true.1 h x hx]
  unfold chanIx
  rw [this]
theorem chanIx_at {cs : List Chan} {ch : Int} {k : Nat} (hk : k < cs.length) (h : (cs.take k).all (notId ch) = true) (hc : notId ch cs[k] = false) : chanIx cs ch = (k : Int) := by
  have : cs.findIdx? (fun c => !notId ch c) = some k := by
    rw [List.findIdx?_eq_some_iff_getElem]
    refine ⟨hk, by simp [hc], fun j hj => ?_⟩
    have hm : cs[j] ∈ cs.take k := by
      rw [List.mem_take_iff_getElem]
      exact ⟨j, by omega, rfl⟩
    simp [List.all_eq_true.1 h _ hm]
  unfold chanIx
  rw [this]
def outH (ch n : Int) (h : Htlc) : Int := if (h.Out == ch) = true then n + h.AmtOut else n
def inH (ch n : Int) (h : Htlc) : Int := if (h.In == ch) = true then n + h.AmtIn else n
def outC (ch n : Int) (c : Circle) : Int := if (c.From == ch) = true then n + (c.Amt + c.Fee) else n
def inC (ch n : Int) (c : Circle) : Int := if (c.To == ch) = true then n + c.Amt else n
def outOf (hs : List Htlc) (os : List Circle) (ch : Int) : Int := os.foldl (outC ch) (hs.foldl (outH ch) 0)
def inOf (hs : List Htlc) (os : List Circle) (ch : Int) : Int := os.foldl (inC ch) (hs.foldl (inH ch) 0)
/-- The amounts are amounts: no sum of them wraps. -/
structure Small (hs : List Htlc) (os : List Circle) : Prop where
  hl : hs.length ≤ 60
  ol : os.length ≤ 20
  h : ∀ k, (hk : k < hs.length) → (0 ≤ hs[k].AmtOut ∧ hs[k].AmtOut ≤ 1125899906842624) ∧ (0 ≤ hs[k].AmtIn ∧ hs[k].AmtIn ≤ 1125899906842624)
  o : ∀ k, (hk : k < os.length) → (0 ≤ os[k].Amt ∧ os[k].Amt ≤ 1125899906842624) ∧ (0 ≤ os[k].Fee ∧ os[k].Fee ≤ 1125899906842624)
theorem Small.outH_bd {hs : List Htlc} {os : List Circle} (s : Small hs os) (ch : Int) : ∀ k, k ≤ hs.length → 0 ≤ (hs.take k).foldl (outH ch) 0 ∧ (hs.take k).foldl (outH ch) 0 ≤ (k : Int) * 1125899906842624
  | 0, _ => by simp
  | k + 1, hk => by
    obtain ⟨h1, h2⟩ := s.outH_bd ch k (by omega)
    obtain ⟨⟨a, b⟩, _⟩ := s.h k (by omega)
    rw [foldl_take_succ hs _ _ (by omega)]
    unfold outH at h1 h2 ⊢
    split <;> omega
theorem Small.inH_bd {hs : List Htlc} {os : List Circle} (s : Small hs os) (ch : Int) : ∀ k, k ≤ hs.length → 0 ≤ (hs.take k).foldl (inH ch) 0 ∧ (hs.take k).foldl (inH ch) 0 ≤ (k : Int) * 1125899906842624
  | 0, _ => by simp
  | k + 1, hk => by
    obtain ⟨h1, h2⟩ := s.inH_bd ch k (by omega)
    obtain ⟨_, a, b⟩ := s.h k (by omega)
    rw [foldl_take_succ hs _ _ (by omega)]
    unfold inH at h1 h2 ⊢
    split <;> omega
theorem Small.outC_bd {hs : List Htlc} {os : List Circle} (s : Small hs os) (ch z : Int) (z0 : 0 ≤ z) : ∀ k, k ≤ os.length → 0 ≤ (os.take k).foldl (outC ch) z ∧ (os.take k).foldl (outC ch) z ≤ z + (k : Int) * 2251799813685248
  | 0, _ => by simp; omega
  | k + 1, hk => by
    obtain ⟨h1, h2⟩ := s.outC_bd ch z z0 k (by omega)
    obtain ⟨⟨a, b⟩, c, d⟩ := s.o k (by omega)
    rw [foldl_take_succ os _ _ (by omega)]
    unfold outC at h1 h2 ⊢
    split <;> omega
theorem Small.inC_bd {hs : List Htlc} {os : List Circle} (s : Small hs os) (ch z : Int) (z0 : 0 ≤ z) : ∀ k, k ≤ os.length → 0 ≤ (os.take k).foldl (inC ch) z ∧ (os.take k).foldl (inC ch) z ≤ z + (k : Int) * 1125899906842624
  | 0, _ => by simp; omega
  | k + 1, hk => by
    obtain ⟨h1, h2⟩ := s.inC_bd ch z z0 k (by omega)
    obtain ⟨⟨a, b⟩, c, d⟩ := s.o k (by omega)
    rw [foldl_take_succ os _ _ (by omega)]
    unfold inC at h1 h2 ⊢
    split <;> omega
theorem Small.out_bd {hs : List Htlc} {os : List Circle} (s : Small hs os) (ch : Int) : 0 ≤ outOf hs os ch ∧ outOf hs os ch ≤ 112589990684262400 := by
  obtain ⟨h1, h2⟩ := s.outH_bd ch hs.length (Nat.le_refl _)
  rw [List.take_length] at h1 h2
  obtain ⟨h3, h4⟩ := s.outC_bd ch _ h1 os.length (Nat.le_refl _)
  rw [List.take_length] at h3 h4
  have := s.hl
  have := s.ol
  unfold outOf
  omega
theorem Small.in_bd {hs : List Htlc} {os : List Circle} (s : Small hs os) (ch : Int) : 0 ≤ inOf hs os ch ∧ inOf hs os ch ≤ 112589990684262400 := by
  obtain ⟨h1, h2⟩ := s.inH_bd ch hs.length (Nat.le_refl _)
  rw [List.take_length] at h1 h2
  obtain ⟨h3, h4⟩ := s.inC_bd ch _ h1 os.length (Nat.le_refl _)
  rw [List.take_length] at h3 h4
  have := s.hl
  have := s.ol
  unfold inOf
  omega
/-! ### Parts -/
def twoB (cs : List Chan) (x y : Int) : Bool := (x != y) && decide (0 ≤ chanIx cs x) && decide (0 ≤ chanIx cs y)
def htlcB (cs : List Chan) (h : Htlc) : Bool := twoB cs h.In h.Out && amtB h.AmtIn && inB h.AmtOut 1 h.AmtIn && amtB h.Age
def circB (cs : List Chan) (c : Circle) : Bool := twoB cs c.From c.To && inB c.Amt 1 1125899906842624 && amtB c.Fee
def hasB (l : List Int) (n : Int) : Bool := l.any (· == n)
def keysOf (hs : List Htlc) (os : List Circle) : List Int := hs.map Htlc.Key ++ os.map Circle.Key
def everyTo (k : Nat) (p : Nat → Bool) : Bool := (List.range k).all p
theorem everyTo_succ (k : Nat) (p : Nat → Bool) : everyTo (k + 1) p = (everyTo k p && p k) := by
  unfold everyTo
  rw [List.range_succ, List.all_append]
  simp
theorem everyTo_iff {k : Nat} {p : Nat → Bool} : everyTo k p = true ↔ ∀ i, i < k → p i = true := by
  simp [everyTo, List.all_eq_true]
theorem everyTo_false {k i : Nat} {p : Nat → Bool} (hi : i < k) (h : p i = false) : everyTo k p = false := by
  cases hu : everyTo k p
  · rfl
  · rw [everyTo_iff.1 hu i hi] at h
    cases h
def keyAt (ks : List Int) (i : Nat) : Bool := match ks[i]? with | some k => inB k 1 1000000 && !hasB (ks.take i) k | none => true
theorem keyAt_eq {ks : List Int} {i : Nat} (h : i < ks.length) : keyAt ks i = (inB ks[i] 1 1000000 && !hasB (ks.take i) ks[i]) := by
  unfold keyAt
  rw [List.getElem?_eq_getElem h]
def partsB (cs : List Chan) (hs : List Htlc) (os : List Circle) : Bool := hs.all (htlcB cs) && os.all (circB cs) && everyTo (keysOf hs os).length (keyAt (keysOf hs os))
theorem partsB_h {cs : List Chan} {hs : List Htlc} {os : List Circle} {k : Nat} (hk : k < hs.length) (h : htlcB cs hs[k] = false) : partsB cs hs os = false := by
  unfold partsB
  rw [all_false hs _ hk h]
  rfl
theorem partsB_o {cs : List Chan} {hs : List Htlc} {os : List Circle} {k : Nat} (hk : k < os.length) (h : circB cs os[k] = false) : partsB cs hs os = false := by
  unfold partsB
  rw [all_false os _ hk h, Bool.and_false, Bool.false_and]
theorem partsB_k {cs : List Chan} {hs : List Htlc} {os : List Circle} {k : Nat} (hk : k < (keysOf hs os).length) (h : keyAt (keysOf hs os) k = false) : partsB cs hs os = false := by
  unfold partsB
  rw [everyTo_false hk h, Bool.and_false]
theorem partsB_small {cs : List Chan} {hs : List Htlc} {os : List Circle} (h : partsB cs hs os = true) (h60 : hs.length ≤ 60) (h20 : os.length ≤ 20) : Small hs os := by
  simp only [partsB, Bool.and_eq_true] at h
  refine ⟨h60, h20, fun k hk => ?_, fun k hk => ?_⟩
  · have hh := List.all_eq_true.1 h.1.1 _ (List.getElem_mem hk)
    simp only [htlcB, Bool.and_eq_true, amtB_iff, inB_iff] at hh
    omega
  · have hh := List.all_eq_true.1 h.1.2 _ (List.getElem_mem hk)
    simp only [circB, Bool.and_eq_true, amtB_iff, inB_iff] at hh
    omega
/-! ### The channels -/
def chB (hs : List Htlc) (os : List Circle) (c : Chan) : Bool :=
  isChanB c.Id && amtB c.Local && amtB c.Remote && amtB c.Base && inB c.Ppm 0 1000000 && inB c.Score (-100) 100 && amtB c.Size && (c.Size == c.Local + c.Remote + outOf hs os c.Id + inOf hs os c.Id)
def chanOk (cs : List Chan) (hs : List Htlc) (os : List Circle) (i : Nat) : Bool :=
  match cs[i]? with
  | some c => chB hs os c && (decide (i = 0) || match cs[i - 1]? with | some p => decide (p.Id < c.Id) | none => false)
  | none => true
theorem chanOk_first {cs : List Chan} {hs : List Htlc} {os : List Circle} (hk : 0 < cs.length) : chanOk cs hs os 0 = chB hs os cs[0] := by
  unfold chanOk
  rw [List.getElem?_eq_getElem hk]
  simp
theorem chanOk_next {cs : List Chan} {hs : List Htlc} {os : List Circle} {j : Nat} (hk : j + 1 < cs.length) (hj : j < cs.length) : chanOk cs hs os (j + 1) = (chB hs os cs[j + 1] && decide (cs[j].Id < cs[j + 1].Id)) := by
  have e2 : cs[j + 1 - 1]? = some cs[j] := List.getElem?_eq_getElem hj
  unfold chanOk
  rw [List.getElem?_eq_getElem hk, e2]
  simp
def bookB (bt bn bw : Int) (cs : List Chan) (hs : List Htlc) (os : List Circle) : Bool :=
  amtB bt && amtB bw && inB bn 1 1125899906842624 && decide (cs.length ≤ 20) && decide (hs.length ≤ 60) && decide (os.length ≤ 20) && partsB cs hs os && everyTo cs.length (chanOk cs hs os)
structure BookFacts (bt bn bw : Int) (cs : List Chan) (hs : List Htlc) (os : List Circle) : Prop where
  t : 0 ≤ bt ∧ bt ≤ 1125899906842624
  w : 0 ≤ bw ∧ bw ≤ 1125899906842624
  n : 1 ≤ bn ∧ bn ≤ 1125899906842624
  cl : cs.length ≤ 20
  small : Small hs os
  parts : partsB cs hs os = true
  ch : ∀ k, (hk : k < cs.length) → chB hs os cs[k] = true
theorem bookB_facts {bt bn bw : Int} {cs : List Chan} {hs : List Htlc} {os : List Circle} (h : bookB bt bn bw cs hs os = true) : BookFacts bt bn bw cs hs os := by
  simp only [bookB, Bool.and_eq_true, amtB_iff, inB_iff, decide_eq_true_eq] at h
  obtain ⟨⟨⟨⟨⟨⟨⟨h1, h2⟩, h3⟩, h4⟩, h5⟩, h6⟩, h7⟩, h8⟩ := h
  refine ⟨h1, h2, h3, h4, partsB_small h7 h5 h6, h7, fun k hk => ?_⟩
  have := everyTo_iff.1 h8 k hk
  cases k with
  | zero => rwa [chanOk_first hk] at this
  | succ j =>
    rw [chanOk_next hk (by omega), Bool.and_eq_true] at this
    exact this.1
end Go.Proofs.YtcjbjpobpefehaaGreatDoor

namespace Go.Proofs.YtcjbjpobpefehaaGreatDoor
open Go.RowKit

structure Ld (w : World) : Prop where
  tab : Lib.TabIs Tryz.prog w "internal/strconv.uint64pow10" .u64 Lib.pow10Tab
  ml : ∃ m : Int, w.cell? ⟨0, 0, none⟩ = some (.int .i64 m)
theorem gPow : Tryz.prog.globalNamed "internal/strconv.uint64pow10" = some 1 := by kernel_rfl
theorem Ld.below {w w' : World} (h : Ld w) (hb : Below w.heap.size w w') : Ld w' := ⟨Go.Joins.tab_stays gPow h.tab hb (Nat.le_refl _), h.ml.imp fun _ hm => (hb.cell (p := ⟨0, 0, none⟩) (Lib.lt_of_cell hm)).trans hm⟩
theorem below_grow (w : World) (k : Nat) (os : Array Obj) : Below w.heap.size w (Go.Sort.grow (w.drewN k) os) :=
  ⟨rfl, rfl, rfl, by simp [Go.Sort.grow], fun n hn => by
    show (w.heap ++ os)[n]? = w.heap[n]?
    rw [Array.getElem?_append_left hn]⟩
theorem i_NumText (n : Int) (w : World) (h : Ld w) : Calls Tryz.prog 20 #[.int .i64 n] w (NumP n w) := by
  cases hb : inB n (-1125899906842624) 1125899906842624
  · have HE := Lib.hid (numL_out (n := n) (by rw [← inB_iff, hb]; simp))
    go_enter Tryz.func20, Tryz.ntmps20
    go_wp2_with (go_at_call 47; refine (i_in _ _ _ _).mono ?_; rintro e w' ⟨rfl, rfl⟩)
    go_ret
    exact ⟨by rw [HE.out]; rfl, by (first | ((repeat' first | (with_reducible (first | exact Below.refl _ _ | assumption | refine Below.setCell ?_ ?_ _ | refine Below.alloc ?_ ?_ _ | refine Below.drew ?_ | refine below_drewN ?_ _ | refine Below.trans ?_ (Below.mono (by assumption) ?_))) | omega | (simp; omega) | (simp; done)); done) | (repeat' first | exact Below.refl _ _ | assumption | refine Below.setCell ?_ (by first | omega | (simp; omega) | (simp; done)) _ | refine Below.alloc ?_ (by first | omega | (simp; omega) | (simp; done)) _ | refine Below.drew ?_ | refine below_drewN ?_ _ | refine Below.trans ?_ (Below.mono (by assumption) (by first | omega | (simp; omega) | (simp; done)))))⟩
  · have hr := inB_iff.1 hb
    have HE := Lib.hid (numL_in hr)
    have hc := Tryz.strconv_Itoa n (by omega) (by omega) w h.tab
    have HC := Lib.hid hc
    clear hc
    go_enter Tryz.func20, Tryz.ntmps20
    go_wp2_with (go_at_call 47; refine (i_in _ _ _ _).mono ?_; rintro e w' ⟨rfl, rfl⟩)
    refine HC.out.mono ?_
    rintro e w1 ⟨rfl, k, os, rfl⟩
    go_wp2_with fail
    go_ret
    exact ⟨by rw [HE.out]; rfl, below_grow w k os⟩
end Go.Proofs.YtcjbjpobpefehaaGreatDoor

namespace Go.Proofs.YtcjbjpobpefehaaGreatDoor
open Go.RowKit

/-- the words of the accounts, behind one another -/
def accWords : ByteArray := ⟨#[32, 119, 97, 108, 108, 101, 116, 32, 101, 113, 117, 105, 116, 121, 32, 105, 110, 99, 111, 109, 101, 32, 114, 101, 98, 97, 108, 32, 99, 104, 97, 105, 110, 32, 108, 111, 99, 97, 108, 32, 105, 110, 32, 111, 117, 116]⟩
def wordsRow : List Value := (List.range 9).map fun n : Nat => .string ⟨(wordL (n : Int)).toArray⟩
theorem words_split : (parts 32 accWords.data.toList).map (fun l : List UInt8 => Value.string ⟨l.toArray⟩) = wordsRow := by kernel_rfl
theorem words_at {n : Nat} (h : n < 9) : wordsRow[n]? = some (.string ⟨(wordL (n : Int)).toArray⟩) := by simp [wordsRow, h]
/-- what strings.Split gives at a separator of one byte -/
theorem split_row (s : ByteArray) (b : UInt8) : (Lib.splitB ⟨#[b]⟩ 0 (Lib.countB s ⟨#[b]⟩) s).map Value.string = (parts b s.data.toList).map (fun l : List UInt8 => Value.string ⟨l.toArray⟩) := by
  have e := Lib.splitB_data ⟨#[b]⟩ 0 (Lib.countB s ⟨#[b]⟩) s
  have e2 : Lib.countB s ⟨#[b]⟩ = Lib.count s.data.toList [b] := rfl
  rw [e2] at e ⊢
  rw [show (⟨#[b]⟩ : ByteArray).data.toList = [b] from rfl, split_parts] at e
  rw [← e, List.map_map]
  refine List.map_congr_left fun x _ => ?_
  rfl
theorem split_count (s : ByteArray) (b : UInt8) : Lib.countB s ⟨#[b]⟩ + 1 = (parts b s.data.toList).length := by
  have e := congrArg List.length (split_row s b)
  rw [List.length_map, List.length_map] at e
  rw [← e, Lib.splitB_all ⟨#[b]⟩ (Nat.le_refl 1) 0 _ s rfl]
theorem i_words (n : Nat) (w : World) (h : Ld w) (hn : n < 9) : Calls Tryz.prog 57 #[.string accWords, .string ⟨#[32]⟩] w fun e w' =>
    e = .returned (.slice (some ⟨w.heap.size, 0, none⟩) 9 9) ∧ w'.cell? ⟨w.heap.size, n, none⟩ = some (.string ⟨(wordL (n : Int)).toArray⟩) ∧ Below w.heap.size w w' := by
  obtain ⟨m, hm⟩ := h.ml
  refine (Tryz.strings_Split accWords ⟨#[32]⟩ m w (by decide) hm (by decide)).mono ?_
  rintro e w' ⟨rfl, rfl⟩
  have e1 : Lib.countB accWords ⟨#[32]⟩ + 1 = 9 := by
    rw [split_count]
    kernel_rfl
  refine ⟨by rw [e1], ?_, (Below.refl _ _).alloc (Nat.le_refl _) _⟩
  rw [split_row, words_split, blk_cell (heap_at rfl) n]
  simpa using words_at hn
end Go.Proofs.YtcjbjpobpefehaaGreatDoor

namespace Go.Proofs.YtcjbjpobpefehaaGreatDoor
open Go

structure Bk where
  t : Int
  n : Int
  w : Int
  cs : List Chan
  hs : List Htlc
  os : List Circle
def bk0 : Bk := ⟨0, 0, 0, [], [], []⟩
def Bk.ok (b : Bk) : Bool := bookB b.t b.n b.w b.cs b.hs b.os
end Go.Proofs.YtcjbjpobpefehaaGreatDoor

namespace Go.Proofs.YtcjbjpobpefehaaGreatDoor
open Go.RowKit

theorem i_isKey (n : Int) (w : World) :
    Calls Tryz.prog 74 #[.int .i64 n] w fun e w' => e = .returned (.bool (inB n 1 1000000)) ∧ w = w' := by
  go_enter Tryz.func74, Tryz.ntmps74
  go_wp2_with (go_at_call 47; refine (i_in _ _ _ _).mono ?_; rintro e w' ⟨rfl, rfl⟩)
  go_ret
  exact ⟨rfl, rfl⟩
theorem i_ScoreOk (n : Int) (w : World) :
    Calls Tryz.prog 50 #[.int .i64 n] w fun e w' => e = .returned (.bool (inB n (-100) 100)) ∧ w = w' := by
  go_enter Tryz.func50, Tryz.ntmps50
  go_wp2_with (go_at_call 47; refine (i_in _ _ _ _).mono ?_; rintro e w' ⟨rfl, rfl⟩)
  go_ret
  exact ⟨rfl, rfl⟩
theorem s_ScoreOk (n : Int) (w : World) :
    Calls Tryz.prog 23 #[.int .i64 n] w fun e w' => e = .returned (.bool (inB n (-100) 100)) ∧ w = w' := by
  by_cases h1 : -100 ≤ n <;> by_cases h2 : n ≤ 100
  all_goals
    go_enter Tryz.func23, Tryz.ntmps23
    go_wp2
    all_goals go_ret
    all_goals exact ⟨by simp [inB, h1, h2] <;> omega, rfl⟩
set_option maxRecDepth 100000 in
set_option maxHeartbeats 1000000 in
theorem i_chanAt (bt bn bw : Int) (cs : List Chan) (hs : List Htlc) (os : List Circle) (A1 A2 A3 : Option Addr) (p1 p2 p3 : Nat) (ch : Int) (w : World) (hl : cs.length ≤ 1048576) (hr : RdBook w w.heap.size A1 cs A2 hs A3 os) :
    Calls Tryz.prog 73 #[.agg #[.int .i64 bt, .int .i64 bn, .int .i64 bw, .slice A1 cs.length p1, .slice A2 hs.length p2, .slice A3 os.length p3], .int .i64 ch] w fun e w' => e = .returned (.int .i64 (chanIx cs ch)) ∧ Below w.heap.size w w' := by
  have HR := Lib.hid hr.c
  clear hr
  go_enter Tryz.func73, Tryz.ntmps73
  go_wp2_with fail
  go_loopw [10] (fun i wr => ∃ k : Nat, k ≤ cs.length ∧ i = .int .i64 k ∧ Hid ((cs.take k).all (notId ch) = true) ∧ Below w.heap.size w wr) (fun i _ => cs.length - (intOf i).toNat)
  case atStart => exact ⟨0, Nat.zero_le _, rfl, Lib.hid rfl, by (first | ((repeat' first | (with_reducible (first | exact Below.refl _ _ | assumption | refine Below.setCell ?_ ?_ _ | refine Below.alloc ?_ ?_ _ | refine Below.drew ?_ | refine below_drewN ?_ _ | refine Below.trans ?_ (Below.mono (by assumption) ?_))) | omega | (simp; omega) | (simp; done)); done) | (repeat' first | exact Below.refl _ _ | assumption | refine Below.setCell ?_ (by first | omega | (simp; omega) | (simp; done)) _ | refine Below.alloc ?_ (by first | omega | (simp; omega) | (simp; done)) _ | refine Below.drew ?_ | refine below_drewN ?_ _ | refine Below.trans ?_ (Below.mono (by assumption) (by first | omega | (simp; omega) | (simp; done)))))⟩
  case round =>
    obtain ⟨k, hk, rfl, HA, hbw⟩ := hrel
    have hbz := hbw.size
    by_cases hlt : k < cs.length
    · obtain ⟨b, off, rfl, hbB, c0, c1, c2, c3, c4, c5, c6⟩ := Chan.rd (HR.out.below hbw) hlt
      cases hch : (cs[k].Id == ch)
      · have HC := Lib.hid (show notId ch cs[k] = true by simp [notId, bne, hch])
        go_wp2_with fail
        go_roundw
        case rel => exact ⟨k + 1, by omega, by go_num, Lib.hid (by rw [all_take_succ cs _ hlt, HA.out, HC.out]; rfl), by (first | ((repeat' first | (with_reducible (first | exact Below.refl _ _ | assumption | refine Below.setCell ?_ ?_ _ | refine Below.alloc ?_ ?_ _ | refine Below.drew ?_ | refine below_drewN ?_ _ | refine Below.trans ?_ (Below.mono (by assumption) ?_))) | omega | (simp; omega) | (simp; done)); done) | (repeat' first | exact Below.refl _ _ | assumption | refine Below.setCell ?_ (by first | omega | (simp; omega) | (simp; done)) _ | refine Below.alloc ?_ (by first | omega | (simp; omega) | (simp; done)) _ | refine Below.drew ?_ | refine below_drewN ?_ _ | refine Below.trans ?_ (Below.mono (by assumption) (by first | omega | (simp; omega) | (simp; done)))))⟩
        case measure => simp [intOf]; omega
      · have HC := Lib.hid (show notId ch cs[k] = false by simp [notId, bne, hch])
        go_wp2_with fail
        go_ret
        exact ⟨ret_int (chanIx_at hlt HA.out HC.out).symm, by (first | ((repeat' first | (with_reducible (first | exact Below.refl _ _ | assumption | refine Below.setCell ?_ ?_ _ | refine Below.alloc ?_ ?_ _ | refine Below.drew ?_ | refine below_drewN ?_ _ | refine Below.trans ?_ (Below.mono (by assumption) ?_))) | omega | (simp; omega) | (simp; done)); done) | (repeat' first | exact Below.refl _ _ | assumption | refine Below.setCell ?_ (by first | omega | (simp; omega) | (simp; done)) _ | refine Below.alloc ?_ (by first | omega | (simp; omega) | (simp; done)) _ | refine Below.drew ?_ | refine below_drewN ?_ _ | refine Below.trans ?_ (Below.mono (by assumption) (by first | omega | (simp; omega) | (simp; done)))))⟩
    · obtain rfl : k = cs.length := by omega
      go_wp2_with fail
      go_ret
      exact ⟨ret_int (chanIx_none HA.out).symm, by (first | ((repeat' first | (with_reducible (first | exact Below.refl _ _ | assumption | refine Below.setCell ?_ ?_ _ | refine Below.alloc ?_ ?_ _ | refine Below.drew ?_ | refine below_drewN ?_ _ | refine Below.trans ?_ (Below.mono (by assumption) ?_))) | omega | (simp; omega) | (simp; done)); done) | (repeat' first | exact Below.refl _ _ | assumption | refine Below.setCell ?_ (by first | omega | (simp; omega) | (simp; done)) _ | refine Below.alloc ?_ (by first | omega | (simp; omega) | (simp; done)) _ | refine Below.drew ?_ | refine below_drewN ?_ _ | refine Below.trans ?_ (Below.mono (by assumption) (by first | omega | (simp; omega) | (simp; done)))))⟩
set_option maxRecDepth 100000 in
set_option maxHeartbeats 1000000 in
theorem s_l07At (bt bn bw : Int) (cs : List Chan) (hs : List Htlc) (os : List Circle) (A1 A2 A3 : Option Addr) (p1 p2 p3 : Nat) (ch : Int) (w : World) (hl : cs.length ≤ 1048576) (hr : RdBook w w.heap.size A1 cs A2 hs A3 os) :
    Calls Tryz.prog 80 #[.agg #[.int .i64 bt, .int .i64 bn, .int .i64 bw, .slice A1 cs.length p1, .slice A2 hs.length p2, .slice A3 os.length p3], .int .i64 ch] w fun e w' => e = .returned (.int .i64 (chanIx cs ch)) ∧ Below w.heap.size w w' := by
  have HR := Lib.hid hr.c
  clear hr
  go_enter Tryz.func80, Tryz.ntmps80
  go_wp2_with fail
  go_loopw [9] (fun i wr => ∃ k : Nat, k ≤ cs.length ∧ i = .int .i64 k ∧ Hid ((cs.take k).all (notId ch) = true) ∧ wr.heap[w.heap.size]? = some (.cells #[.int .i64 bt, .int .i64 bn, .int .i64 bw, .slice A1 cs.length p1, .slice A2 hs.length p2, .slice A3 os.length p3] 27 (0, 0)) ∧ Below w.heap.size w wr) (fun i _ => cs.length - (intOf i).toNat)
  case atStart => exact ⟨0, Nat.zero_le _, rfl, Lib.hid rfl, heap_at rfl, by (first | ((repeat' first | (with_reducible (first | exact Below.refl _ _ | assumption | refine Below.setCell ?_ ?_ _ | refine Below.alloc ?_ ?_ _ | refine Below.drew ?_ | refine below_drewN ?_ _ | refine Below.trans ?_ (Below.mono (by assumption) ?_))) | omega | (simp; omega) | (simp; done)); done) | (repeat' first | exact Below.refl _ _ | assumption | refine Below.setCell ?_ (by first | omega | (simp; omega) | (simp; done)) _ | refine Below.alloc ?_ (by first | omega | (simp; omega) | (simp; done)) _ | refine Below.drew ?_ | refine below_drewN ?_ _ | refine Below.trans ?_ (Below.mono (by assumption) (by first | omega | (simp; omega) | (simp; done)))))⟩
  case round =>
    obtain ⟨k, hk, rfl, HA, hbox, hbw⟩ := hrel
    have hbz := hbw.size
    obtain ⟨eh, e0, e1, e2, e3, e4, e5, ef, ezz⟩ := own6 (Below.refl wr.heap.size wr) (Array.getElem?_eq_some_iff.1 hbox).1 hbox
    have EH := Lib.hid eh
    clear eh hbox
    by_cases hlt : k < cs.length
    · obtain ⟨b, off, rfl, hbB, c0, c1, c2, c3, c4, c5, c6⟩ := Chan.rd (HR.out.below hbw) hlt
      have i1 : (0 : Int) ≤ (k : Int) := by omega
      have i2 : (k : Int) < (cs.length : Int) := by omega
      cases hch : (cs[k].Id == ch)
      · have HC := Lib.hid (show notId ch cs[k] = true by simp [notId, bne, hch])
        go_wp2_with fail
        go_roundw
        case rel => exact ⟨k + 1, by omega, by go_num, Lib.hid (by rw [all_take_succ cs _ hlt, HA.out, HC.out]; rfl), EH.out, by (first | ((repeat' first | (with_reducible (first | exact Below.refl _ _ | assumption | refine Below.setCell ?_ ?_ _ | refine Below.alloc ?_ ?_ _ | refine Below.drew ?_ | refine below_drewN ?_ _ | refine Below.trans ?_ (Below.mono (by assumption) ?_))) | omega | (simp; omega) | (simp; done)); done) | (repeat' first | exact Below.refl _ _ | assumption | refine Below.setCell ?_ (by first | omega | (simp; omega) | (simp; done)) _ | refine Below.alloc ?_ (by first | omega | (simp; omega) | (simp; done)) _ | refine Below.drew ?_ | refine below_drewN ?_ _ | refine Below.trans ?_ (Below.mono (by assumption) (by first | omega | (simp; omega) | (simp; done)))))⟩
        case measure => simp [intOf]; omega
      · have HC := Lib.hid (show notId ch cs[k] = false by simp [notId, bne, hch])
        go_wp2_with fail
        go_ret
        exact ⟨ret_int (chanIx_at hlt HA.out HC.out).symm, by (first | ((repeat' first | (with_reducible (first | exact Below.refl _ _ | assumption | refine Below.setCell ?_ ?_ _ | refine Below.alloc ?_ ?_ _ | refine Below.drew ?_ | refine below_drewN ?_ _ | refine Below.trans ?_ (Below.mono (by assumption) ?_))) | omega | (simp; omega) | (simp; done)); done) | (repeat' first | exact Below.refl _ _ | assumption | refine Below.setCell ?_ (by first | omega | (simp; omega) | (simp; done)) _ | refine Below.alloc ?_ (by first | omega | (simp; omega) | (simp; done)) _ | refine Below.drew ?_ | refine below_drewN ?_ _ | refine Below.trans ?_ (Below.mono (by assumption) (by first | omega | (simp; omega) | (simp; done)))))⟩
    · obtain rfl : k = cs.length := by omega
      go_wp2_with fail
      go_ret
      exact ⟨ret_int (chanIx_none HA.out).symm, by (first | ((repeat' first | (with_reducible (first | exact Below.refl _ _ | assumption | refine Below.setCell ?_ ?_ _ | refine Below.alloc ?_ ?_ _ | refine Below.drew ?_ | refine below_drewN ?_ _ | refine Below.trans ?_ (Below.mono (by assumption) ?_))) | omega | (simp; omega) | (simp; done)); done) | (repeat' first | exact Below.refl _ _ | assumption | refine Below.setCell ?_ (by first | omega | (simp; omega) | (simp; done)) _ | refine Below.alloc ?_ (by first | omega | (simp; omega) | (simp; done)) _ | refine Below.drew ?_ | refine below_drewN ?_ _ | refine Below.trans ?_ (Below.mono (by assumption) (by first | omega | (simp; omega) | (simp; done)))))⟩
def intCells (x : Int) : List Value := [.int .i64 x]
theorem ints_uni (l : List Int) : ∀ r ∈ l.map intCells, r.length = 1 := by
  intro r hr
  obtain ⟨d, _, rfl⟩ := List.mem_map.1 hr
  rfl
theorem ints_rd {w : World} {B : Nat} {A : Option Addr} {l : List Int} (h : Rd w B 1 A (l.map intCells)) {k : Nat} (hk : k < l.length) :
    ∃ b off, A = some ⟨b, off, none⟩ ∧ b < B ∧ w.cell? ⟨b, off + k, none⟩ = some (.int .i64 l[k]) := by
  obtain ⟨b, off, e, hb, hc⟩ := h.2 (by rw [List.length_map]; omega)
  have hk' : (l.map intCells)[k]? = some (intCells l[k]) := by rw [List.getElem?_map, List.getElem?_eq_getElem hk]; rfl
  have := hc k _ 0 _ hk' rfl
  rw [Nat.mul_one, Nat.add_zero] at this
  exact ⟨b, off, e, hb, this⟩
theorem any_take_succ {α : Type} (l : List α) (p : α → Bool) {k : Nat} (hk : k < l.length) : (l.take (k + 1)).any p = ((l.take k).any p || p l[k]) := by
  rw [List.take_succ_eq_append_getElem hk, List.any_append]
  simp
theorem any_true {α : Type} (l : List α) (p : α → Bool) {k : Nat} (hk : k < l.length) (h : p l[k] = true) : l.any p = true := by
  rw [List.any_eq_true]
  exact ⟨l[k], List.getElem_mem hk, h⟩
theorem i_hasInt (l : List Int) (n : Int) (A : Option Addr) (cap : Nat) (w : World) (hl : l.length ≤ 1048576) (hr : Rd w w.heap.size 1 A (l.map intCells)) :
    Calls Tryz.prog 75 #[.slice A l.length cap, .int .i64 n] w fun e w' => e = .returned (.bool (hasB l n)) ∧ w = w' := by
  have HR := Lib.hid hr
  clear hr
  go_enter Tryz.func75, Tryz.ntmps75
  go_wp2_with fail
  go_loop [9] (fun i => ∃ k : Nat, k ≤ l.length ∧ i = .int .i64 k ∧ Hid ((l.take k).any (· == n) = false)) (fun i => l.length - (intOf i).toNat)
  case atStart => exact ⟨0, Nat.zero_le _, rfl, Lib.hid rfl⟩
  case round =>
    obtain ⟨k, hk, rfl, HA⟩ := hrel
    by_cases hlt : k < l.length
    · obtain ⟨b, off, rfl, hbB, c0⟩ := ints_rd HR.out hlt
      cases hch : (l[k] == n)
      · have HC := Lib.hid hch
        go_wp2_with fail
        go_round
        case rel => exact ⟨k + 1, by omega, by go_num, Lib.hid (by rw [any_take_succ l _ hlt, HA.out, HC.out]; rfl)⟩
        case measure => simp [intOf]; omega
      · have HC := Lib.hid hch
        go_wp2_with fail
        go_ret
        exact ⟨ret_bool (any_true l _ hlt HC.out).symm, rfl⟩
    · obtain rfl : k = l.length := by omega
      have ha := HA.out
      rw [List.take_length] at ha
      have HA2 := Lib.hid ha
      clear ha
      go_wp2_with fail
      go_ret
      exact ⟨ret_bool HA2.out.symm, rfl⟩
theorem s_l07HasInt (l : List Int) (n : Int) (A : Option Addr) (cap : Nat) (w : World) (hl : l.length ≤ 1048576) (hr : Rd w w.heap.size 1 A (l.map intCells)) :
    Calls Tryz.prog 56 #[.slice A l.length cap, .int .i64 n] w fun e w' => e = .returned (.bool (hasB l n)) ∧ w = w' := by
  have HR := Lib.hid hr
  clear hr
  go_enter Tryz.func56, Tryz.ntmps56
  go_wp2_with fail
  go_loop [9] (fun i => ∃ k : Nat, k ≤ l.length ∧ i = .int .i64 k ∧ Hid ((l.take k).any (· == n) = false)) (fun i => l.length - (intOf i).toNat)
  case atStart => exact ⟨0, Nat.zero_le _, rfl, Lib.hid rfl⟩
  case round =>
    obtain ⟨k, hk, rfl, HA⟩ := hrel
    by_cases hlt : k < l.length
    · obtain ⟨b, off, rfl, hbB, c0⟩ := ints_rd HR.out hlt
      cases hch : (l[k] == n)
      · have HC := Lib.hid hch
        go_wp2_with fail
        go_round
        case rel => exact ⟨k + 1, by omega, by go_num, Lib.hid (by rw [any_take_succ l _ hlt, HA.out, HC.out]; rfl)⟩
        case measure => simp [intOf]; omega
      · have HC := Lib.hid hch
        go_wp2_with fail
        go_ret
        exact ⟨ret_bool (any_true l _ hlt HC.out).symm, rfl⟩
    · obtain rfl : k = l.length := by omega
      have ha := HA.out
      rw [List.take_length] at ha
      have HA2 := Lib.hid ha
      clear ha
      go_wp2_with fail
      go_ret
      exact ⟨ret_bool HA2.out.symm, rfl⟩
theorem i_apart (bt bn bw : Int) (cs : List Chan) (hs : List Htlc) (os : List Circle) (A1 A2 A3 : Option Addr) (p1 p2 p3 : Nat) (x y : Int) (w : World) (g : Nat) (hg : w.heap[g]? = some (.cells #[.int .i64 bt, .int .i64 bn, .int .i64 bw, .slice A1 cs.length p1, .slice A2 hs.length p2, .slice A3 os.length p3] 27 (0, 0))) (hl : cs.length ≤ 1048576) (hr : RdBook w w.heap.size A1 cs A2 hs A3 os) :
    Calls Tryz.prog 72 #[.int .i64 x, .int .i64 y, .pointer (some ⟨g, 0, none⟩)] w fun e w' => e = .returned (.bool (twoB cs x y)) ∧ Below w.heap.size w w' := by
  have HR := Lib.hid hr
  clear hr
  obtain ⟨eh, e0, e1, e2, e3, e4, e5, ef, ez⟩ := own6 (Below.refl w.heap.size w) (Array.getElem?_eq_some_iff.1 hg).1 hg
  have EH := Lib.hid eh
  clear eh hg
  cases hxy : (x != y)
  · have HE := Lib.hid (show twoB cs x y = false by simp [twoB, hxy])
    go_enter Tryz.func72, Tryz.ntmps72
    go_wp2_with fail
    go_ret
    exact ⟨ret_bool HE.out.symm, by (first | ((repeat' first | (with_reducible (first | exact Below.refl _ _ | assumption | refine Below.setCell ?_ ?_ _ | refine Below.alloc ?_ ?_ _ | refine Below.drew ?_ | refine below_drewN ?_ _ | refine Below.trans ?_ (Below.mono (by assumption) ?_))) | omega | (simp; omega) | (simp; done)); done) | (repeat' first | exact Below.refl _ _ | assumption | refine Below.setCell ?_ (by first | omega | (simp; omega) | (simp; done)) _ | refine Below.alloc ?_ (by first | omega | (simp; omega) | (simp; done)) _ | refine Below.drew ?_ | refine below_drewN ?_ _ | refine Below.trans ?_ (Below.mono (by assumption) (by first | omega | (simp; omega) | (simp; done)))))⟩
  · have TW := Lib.hid (show twoB cs x y = (decide (0 ≤ chanIx cs x) && decide (0 ≤ chanIx cs y)) by simp [twoB, hxy])
    cases hx : decide (0 ≤ chanIx cs x)
    · have HE := Lib.hid (show twoB cs x y = false by rw [TW.out, hx]; rfl)
      go_enter Tryz.func72, Tryz.ntmps72
      go_wp2_with fail
      refine (i_chanAt bt bn bw cs hs os A1 A2 A3 p1 p2 p3 x _ hl ((HR.out.below (by (first | ((repeat' first | (with_reducible (first | exact Below.refl _ _ | assumption | refine Below.setCell ?_ ?_ _ | refine Below.alloc ?_ ?_ _ | refine Below.drew ?_ | refine below_drewN ?_ _ | refine Below.trans ?_ (Below.mono (by assumption) ?_))) | omega | (simp; omega) | (simp; done)); done) | (repeat' first | exact Below.refl _ _ | assumption | refine Below.setCell ?_ (by first | omega | (simp; omega) | (simp; done)) _ | refine Below.alloc ?_ (by first | omega | (simp; omega) | (simp; done)) _ | refine Below.drew ?_ | refine below_drewN ?_ _ | refine Below.trans ?_ (Below.mono (by assumption) (by first | omega | (simp; omega) | (simp; done))))))).more (by first | omega | (simp; omega) | (simp; done)))).mono ?_
      rintro e w1 ⟨rfl, hb1⟩
      have z1 := hb1.size
      try simp at z1
      go_wp2_with fail
      go_ret
      exact ⟨ret_bool HE.out.symm, by (first | ((repeat' first | (with_reducible (first | exact Below.refl _ _ | assumption | refine Below.setCell ?_ ?_ _ | refine Below.alloc ?_ ?_ _ | refine Below.drew ?_ | refine below_drewN ?_ _ | refine Below.trans ?_ (Below.mono (by assumption) ?_))) | omega | (simp; omega) | (simp; done)); done) | (repeat' first | exact Below.refl _ _ | assumption | refine Below.setCell ?_ (by first | omega | (simp; omega) | (simp; done)) _ | refine Below.alloc ?_ (by first | omega | (simp; omega) | (simp; done)) _ | refine Below.drew ?_ | refine below_drewN ?_ _ | refine Below.trans ?_ (Below.mono (by assumption) (by first | omega | (simp; omega) | (simp; done)))))⟩
    · have HE := Lib.hid (show twoB cs x y = decide (0 ≤ chanIx cs y) by rw [TW.out, hx]; rfl)
      go_enter Tryz.func72, Tryz.ntmps72
      go_wp2_with fail
      refine (i_chanAt bt bn bw cs hs os A1 A2 A3 p1 p2 p3 x _ hl ((HR.out.below (by (first | ((repeat' first | (with_reducible (first | exact Below.refl _ _ | assumption | refine Below.setCell ?_ ?_ _ | refine Below.alloc ?_ ?_ _ | refine Below.drew ?_ | refine below_drewN ?_ _ | refine Below.trans ?_ (Below.mono (by assumption) ?_))) | omega | (simp; omega) | (simp; done)); done) | (repeat' first | exact Below.refl _ _ | assumption | refine Below.setCell ?_ (by first | omega | (simp; omega) | (simp; done)) _ | refine Below.alloc ?_ (by first | omega | (simp; omega) | (simp; done)) _ | refine Below.drew ?_ | refine below_drewN ?_ _ | refine Below.trans ?_ (Below.mono (by assumption) (by first | omega | (simp; omega) | (simp; done))))))).more (by first | omega | (simp; omega) | (simp; done)))).mono ?_
      rintro e w1 ⟨rfl, hb1⟩
      have z1 := hb1.size
      try simp at z1
      obtain ⟨_, k0, k1, k2, k3, k4, k5, kf, kz⟩ := own6 hb1 ez EH.out
      go_wp2_with fail
      refine (i_chanAt bt bn bw cs hs os A1 A2 A3 p1 p2 p3 y _ hl ((HR.out.below (by (first | ((repeat' first | (with_reducible (first | exact Below.refl _ _ | assumption | refine Below.setCell ?_ ?_ _ | refine Below.alloc ?_ ?_ _ | refine Below.drew ?_ | refine below_drewN ?_ _ | refine Below.trans ?_ (Below.mono (by assumption) ?_))) | omega | (simp; omega) | (simp; done)); done) | (repeat' first | exact Below.refl _ _ | assumption | refine Below.setCell ?_ (by first | omega | (simp; omega) | (simp; done)) _ | refine Below.alloc ?_ (by first | omega | (simp; omega) | (simp; done)) _ | refine Below.drew ?_ | refine below_drewN ?_ _ | refine Below.trans ?_ (Below.mono (by assumption) (by first | omega | (simp; omega) | (simp; done))))))).more (by first | omega | (simp; omega) | (simp; done)))).mono ?_
      rintro e w2 ⟨rfl, hb2⟩
      have z2 := hb2.size
      try simp at z2
      go_wp2_with fail
      go_ret
      exact ⟨ret_bool HE.out.symm, by (first | ((repeat' first | (with_reducible (first | exact Below.refl _ _ | assumption | refine Below.setCell ?_ ?_ _ | refine Below.alloc ?_ ?_ _ | refine Below.drew ?_ | refine below_drewN ?_ _ | refine Below.trans ?_ (Below.mono (by assumption) ?_))) | omega | (simp; omega) | (simp; done)); done) | (repeat' first | exact Below.refl _ _ | assumption | refine Below.setCell ?_ (by first | omega | (simp; omega) | (simp; done)) _ | refine Below.alloc ?_ (by first | omega | (simp; omega) | (simp; done)) _ | refine Below.drew ?_ | refine below_drewN ?_ _ | refine Below.trans ?_ (Below.mono (by assumption) (by first | omega | (simp; omega) | (simp; done)))))⟩
theorem s_l07Two (bt bn bw : Int) (cs : List Chan) (hs : List Htlc) (os : List Circle) (A1 A2 A3 : Option Addr) (p1 p2 p3 : Nat) (x y : Int) (w : World) (hl : cs.length ≤ 1048576) (hr : RdBook w w.heap.size A1 cs A2 hs A3 os) :
    Calls Tryz.prog 54 #[.agg #[.int .i64 bt, .int .i64 bn, .int .i64 bw, .slice A1 cs.length p1, .slice A2 hs.length p2, .slice A3 os.length p3], .int .i64 x, .int .i64 y] w fun e w' => e = .returned (.bool (twoB cs x y)) ∧ Below w.heap.size w w' := by
  have HR := Lib.hid hr
  clear hr
  cases hxy : (x != y)
  · have HE := Lib.hid (show twoB cs x y = false by simp [twoB, hxy])
    go_enter Tryz.func54, Tryz.ntmps54
    go_wp2_with fail
    go_ret
    exact ⟨ret_bool HE.out.symm, by (first | ((repeat' first | (with_reducible (first | exact Below.refl _ _ | assumption | refine Below.setCell ?_ ?_ _ | refine Below.alloc ?_ ?_ _ | refine Below.drew ?_ | refine below_drewN ?_ _ | refine Below.trans ?_ (Below.mono (by assumption) ?_))) | omega | (simp; omega) | (simp; done)); done) | (repeat' first | exact Below.refl _ _ | assumption | refine Below.setCell ?_ (by first | omega | (simp; omega) | (simp; done)) _ | refine Below.alloc ?_ (by first | omega | (simp; omega) | (simp; done)) _ | refine Below.drew ?_ | refine below_drewN ?_ _ | refine Below.trans ?_ (Below.mono (by assumption) (by first | omega | (simp; omega) | (simp; done)))))⟩
  · have TW := Lib.hid (show twoB cs x y = (decide (0 ≤ chanIx cs x) && decide (0 ≤ chanIx cs y)) by simp [twoB, hxy])
    cases hx : decide (0 ≤ chanIx cs x)
    · have HE := Lib.hid (show twoB cs x y = false by rw [TW.out, hx]; rfl)
      go_enter Tryz.func54, Tryz.ntmps54
      go_wp2_with fail
      refine (s_l07At bt bn bw cs hs os A1 A2 A3 p1 p2 p3 x _ hl ((HR.out.below (by (first | ((repeat' first | (with_reducible (first | exact Below.refl _ _ | assumption | refine Below.setCell ?_ ?_ _ | refine Below.alloc ?_ ?_ _ | refine Below.drew ?_ | refine below_drewN ?_ _ | refine Below.trans ?_ (Below.mono (by assumption) ?_))) | omega | (simp; omega) | (simp; done)); done) | (repeat' first | exact Below.refl _ _ | assumption | refine Below.setCell ?_ (by first | omega | (simp; omega) | (simp; done)) _ | refine Below.alloc ?_ (by first | omega | (simp; omega) | (simp; done)) _ | refine Below.drew ?_ | refine below_drewN ?_ _ | refine Below.trans ?_ (Below.mono (by assumption) (by first | omega | (simp; omega) | (simp; done))))))).more (by first | omega | (simp; omega) | (simp; done)))).mono ?_
      rintro e w1 ⟨rfl, hb1⟩
      have z1 := hb1.size
      try simp at z1
      go_wp2_with fail
      go_ret
      exact ⟨ret_bool HE.out.symm, by (first | ((repeat' first | (with_reducible (first | exact Below.refl _ _ | assumption | refine Below.setCell ?_ ?_ _ | refine Below.alloc ?_ ?_ _ | refine Below.drew ?_ | refine below_drewN ?_ _ | refine Below.trans ?_ (Below.mono (by assumption) ?_))) | omega | (simp; omega) | (simp; done)); done) | (repeat' first | exact Below.refl _ _ | assumption | refine Below.setCell ?_ (by first | omega | (simp; omega) | (simp; done)) _ | refine Below.alloc ?_ (by first | omega | (simp; omega) | (simp; done)) _ | refine Below.drew ?_ | refine below_drewN ?_ _ | refine Below.trans ?_ (Below.mono (by assumption) (by first | omega | (simp; omega) | (simp; done)))))⟩
    · have HE := Lib.hid (show twoB cs x y = decide (0 ≤ chanIx cs y) by rw [TW.out, hx]; rfl)
      go_enter Tryz.func54, Tryz.ntmps54
      go_wp2_with fail
      refine (s_l07At bt bn bw cs hs os A1 A2 A3 p1 p2 p3 x _ hl ((HR.out.below (by (first | ((repeat' first | (with_reducible (first | exact Below.refl _ _ | assumption | refine Below.setCell ?_ ?_ _ | refine Below.alloc ?_ ?_ _ | refine Below.drew ?_ | refine below_drewN ?_ _ | refine Below.trans ?_ (Below.mono (by assumption) ?_))) | omega | (simp; omega) | (simp; done)); done) | (repeat' first | exact Below.refl _ _ | assumption | refine Below.setCell ?_ (by first | omega | (simp; omega) | (simp; done)) _ | refine Below.alloc ?_ (by first | omega | (simp; omega) | (simp; done)) _ | refine Below.drew ?_ | refine below_drewN ?_ _ | refine Below.trans ?_ (Below.mono (by assumption) (by first | omega | (simp; omega) | (simp; done))))))).more (by first | omega | (simp; omega) | (simp; done)))).mono ?_
      rintro e w1 ⟨rfl, hb1⟩
      have z1 := hb1.size
      try simp at z1
      obtain ⟨kh, k0, k1, k2, k3, k4, k5, kf, kz⟩ := own6 (g := w.heap.size) hb1 (by first | omega | (simp; omega) | (simp; done)) (by (first | ((repeat' first | (with_reducible (first | assumption | (refine heap_at ?_; (first | rfl | (simp; done))) | refine heap_drew ?_ | refine heap_drewN ?_ | refine heap_past ?_ ?_ | refine heap_far ?_ ?_)) | (simp; done) | (simp; omega)); done) | (repeat' first | assumption | (refine heap_at ?_; (simp; done)) | refine heap_drew ?_ | refine heap_drewN ?_ | (refine heap_past ?_ ?_ <;> try (simp; done)) | (refine heap_far ?_ ?_ <;> try (simp; done)))))
      go_wp2_with fail
      refine (s_l07At bt bn bw cs hs os A1 A2 A3 p1 p2 p3 y _ hl ((HR.out.below (by (first | ((repeat' first | (with_reducible (first | exact Below.refl _ _ | assumption | refine Below.setCell ?_ ?_ _ | refine Below.alloc ?_ ?_ _ | refine Below.drew ?_ | refine below_drewN ?_ _ | refine Below.trans ?_ (Below.mono (by assumption) ?_))) | omega | (simp; omega) | (simp; done)); done) | (repeat' first | exact Below.refl _ _ | assumption | refine Below.setCell ?_ (by first | omega | (simp; omega) | (simp; done)) _ | refine Below.alloc ?_ (by first | omega | (simp; omega) | (simp; done)) _ | refine Below.drew ?_ | refine below_drewN ?_ _ | refine Below.trans ?_ (Below.mono (by assumption) (by first | omega | (simp; omega) | (simp; done))))))).more (by first | omega | (simp; omega) | (simp; done)))).mono ?_
      rintro e w2 ⟨rfl, hb2⟩
      have z2 := hb2.size
      try simp at z2
      go_wp2_with fail
      go_ret
      exact ⟨ret_bool HE.out.symm, by (first | ((repeat' first | (with_reducible (first | exact Below.refl _ _ | assumption | refine Below.setCell ?_ ?_ _ | refine Below.alloc ?_ ?_ _ | refine Below.drew ?_ | refine below_drewN ?_ _ | refine Below.trans ?_ (Below.mono (by assumption) ?_))) | omega | (simp; omega) | (simp; done)); done) | (repeat' first | exact Below.refl _ _ | assumption | refine Below.setCell ?_ (by first | omega | (simp; omega) | (simp; done)) _ | refine Below.alloc ?_ (by first | omega | (simp; omega) | (simp; done)) _ | refine Below.drew ?_ | refine below_drewN ?_ _ | refine Below.trans ?_ (Below.mono (by assumption) (by first | omega | (simp; omega) | (simp; done)))))⟩
end Go.Proofs.YtcjbjpobpefehaaGreatDoor

namespace Go.Proofs.YtcjbjpobpefehaaGreatDoor
open Go.RowKit

theorem Ld.laid {n1 n2 : String} {d1 d2 : DataW Unit} {r : List (String × DataW Unit)} {w : World}
    (h : laidMetH Tryz.prog ((n1, d1) :: (n2, d2) :: ("internal/strconv.uint64pow10", Lib.tabData .u64 Lib.pow10Tab) :: r) w) (hs : w.ShapedOpen Tryz.prog)
    (hp : (((n1, d1) :: (n2, d2) :: ("internal/strconv.uint64pow10", Lib.tabData .u64 Lib.pow10Tab) :: r).all fun x => x.2.handleName?.isNone) = true) : Ld w := by
  rw [MakeChecks.laidMetH_plain _ _ _ hp] at h
  exact ⟨Lib.tabIs_of_head (t := 158) (n := 20) (e := 143) gPow (by kernel_rfl) Tryz.underlying158 Tryz.underlying143 (by kernel_rfl) (by kernel_rfl) h.tail.tail,
    Go.Proofs.cell_of_shapedOpen_int (zero := #[.int .i64 0]) (t := 3) hs (of_decide_eq_true (by kernel_rfl)) (by kernel_rfl) rfl (by kernel_rfl) (by kernel_rfl) Tryz.underlying3⟩
end Go.Proofs.YtcjbjpobpefehaaGreatDoor

namespace Go.Proofs.YtcjbjpobpefehaaGreatDoor
open Go

/-- words behind a word -/
def wordsC (w : List UInt8) (ws : List (List UInt8)) : List UInt8 := w ++ (ws.map (32 :: ·)).flatten
def numsC (w : List UInt8) (ns : List Int) : List UInt8 := wordsC w (ns.map numL)
theorem wordsC_nil (w : List UInt8) : wordsC w [] = w := by simp [wordsC]
theorem wordsC_cons (w x : List UInt8) (ws : List (List UInt8)) : wordsC w (x :: ws) = wordsC (w ++ 32 :: x) ws := by simp [wordsC]
theorem wordsC_snoc (w x : List UInt8) (ws : List (List UInt8)) : wordsC w (ws ++ [x]) = wordsC w ws ++ 32 :: x := by simp [wordsC]
theorem join_words (w : List UInt8) (ws : List (List UInt8)) : Lib.join (w :: ws) [32] = wordsC w ws := by
  rw [Lib.join_cons]
  rfl
theorem numsC_len (w : List UInt8) (ns : List Int) : (numsC w ns).length ≤ w.length + 18 * ns.length := by
  unfold numsC
  induction ns generalizing w with
  | nil => simp [wordsC]
  | cons n ns ih =>
    rw [List.map_cons, wordsC_cons]
    have h1 := ih (w ++ 32 :: numL n)
    have h2 := numL_len n
    simp only [List.length_append, List.length_cons] at h1 ⊢
    omega
theorem numsC_succ (w : List UInt8) (ns : List Int) {k : Nat} (hk : k < ns.length) : numsC w (ns.take (k + 1)) = numsC w (ns.take k) ++ 32 :: numL ns[k] := by
  unfold numsC
  rw [List.take_succ_eq_append_getElem hk, List.map_append, List.map_cons, List.map_nil, wordsC_snoc]
def bookW : List UInt8 := [98, 111, 111, 107]
def chanW : List UInt8 := [99, 104, 97, 110]
def htlcW : List UInt8 := [104, 116, 108, 99]
def circW : List UInt8 := [99, 105, 114, 99, 108, 101]
def overW : List UInt8 := [111, 118, 101, 114]
def keptW (b : Bool) : List UInt8 := if b = true then [107, 101, 112, 116] else [102, 101, 119]
def headC (bt bn bw : Int) : List UInt8 := numsC bookW [bt, bn, bw]
def chanC (c : Chan) : List UInt8 := numsC chanW [c.Id, c.Size, c.Local, c.Remote, c.Base, c.Ppm, c.Score]
def htlcC (h : Htlc) : List UInt8 := wordsC htlcW ([h.Key, h.In, h.Out, h.AmtIn, h.AmtOut].map numL ++ [keptW h.Kept, numL h.Age])
def circC (c : Circle) : List UInt8 := numsC circW [c.Key, c.From, c.To, c.Amt, c.Fee]
theorem htlcC_eq (h : Htlc) : htlcC h = numsC htlcW [h.Key, h.In, h.Out, h.AmtIn, h.AmtOut] ++ (32 :: (keptW h.Kept ++ 32 :: numL h.Age)) := by
  simp [htlcC, numsC, wordsC]
def row10 {α : Type} (f : α → List UInt8) (x : α) : List UInt8 := f x ++ [10]
def rows10 {α : Type} (f : α → List UInt8) (l : List α) : List UInt8 := (l.map (row10 f)).flatten
theorem rows10_succ {α : Type} (f : α → List UInt8) (l : List α) {k : Nat} (hk : k < l.length) : rows10 f (l.take (k + 1)) = rows10 f (l.take k) ++ (f l[k] ++ [10]) := by
  unfold rows10
  rw [List.take_succ_eq_append_getElem hk, List.map_append, List.flatten_append]
  simp [row10]
theorem rows10_nil {α : Type} (f : α → List UInt8) : rows10 f [] = [] := rfl
theorem rows10_len {α : Type} {f : α → List UInt8} {B : Nat} (hf : ∀ x, (f x).length ≤ B) (l : List α) : (rows10 f l).length ≤ (B + 1) * l.length := by
  unfold rows10
  induction l with
  | nil => simp
  | cons x l ih =>
    have := hf x
    rw [List.map_cons, List.flatten_cons, List.length_append, List.length_cons, Nat.mul_succ]
    unfold row10 at *
    simp only [List.length_append, List.length_cons, List.length_nil]
    omega
def bookTo (bt bn bw : Int) (cs : List Chan) (hs : List Htlc) (os : List Circle) : List UInt8 := headC bt bn bw ++ [10] ++ rows10 chanC cs ++ rows10 htlcC hs ++ rows10 circC os
def bookL (bt bn bw : Int) (cs : List Chan) (hs : List Htlc) (os : List Circle) : List UInt8 := if bookB bt bn bw cs hs os = true then bookTo bt bn bw cs hs os ++ (overW ++ [10]) else []
theorem headC_len (bt bn bw : Int) : (headC bt bn bw).length ≤ 58 := by
  have := numsC_len bookW [bt, bn, bw]
  simpa [headC, bookW] using this
theorem chanC_len (c : Chan) : (chanC c).length ≤ 130 := by
  have := numsC_len chanW [c.Id, c.Size, c.Local, c.Remote, c.Base, c.Ppm, c.Score]
  simpa [chanC, chanW] using this
theorem circC_len (c : Circle) : (circC c).length ≤ 96 := by
  have := numsC_len circW [c.Key, c.From, c.To, c.Amt, c.Fee]
  simpa [circC, circW] using this
theorem htlcC_len (h : Htlc) : (htlcC h).length ≤ 118 := by
  have h1 := numsC_len htlcW [h.Key, h.In, h.Out, h.AmtIn, h.AmtOut]
  have h2 := numL_len h.Age
  rw [htlcC_eq]
  have h3 : (keptW h.Kept).length ≤ 4 := by unfold keptW; split <;> simp
  simp only [List.length_append, List.length_cons, List.length_nil, htlcW] at h1 ⊢
  omega
theorem bookTo_len (bt bn bw : Int) (cs : List Chan) (hs : List Htlc) (os : List Circle) : (bookTo bt bn bw cs hs os).length ≤ 59 + 131 * cs.length + 119 * hs.length + 97 * os.length := by
  have h1 := headC_len bt bn bw
  have h2 := rows10_len chanC_len cs
  have h3 := rows10_len htlcC_len hs
  have h4 := rows10_len circC_len os
  unfold bookTo
  simp only [List.length_append, List.length_cons, List.length_nil]
  omega
theorem bookL_len (bt bn bw : Int) (cs : List Chan) (hs : List Htlc) (os : List Circle) : (bookL bt bn bw cs hs os).length ≤ 12000 := by
  unfold bookL
  split
  · rename_i h
    have h1 := bookTo_len bt bn bw cs hs os
    have f := bookB_facts h
    have h2 := f.cl
    have h3 := f.small.hl
    have h4 := f.small.ol
    simp only [List.length_append, List.length_cons, List.length_nil, overW]
    omega
  · simp
/-- the checksum of a text -/
def checkL (l : List UInt8) : Int := l.foldl (fun n b => (31 * n + (b.toNat : Int)) % 9973) 0
theorem checkL_succ (l : List UInt8) {k : Nat} (hk : k < l.length) : checkL (l.take (k + 1)) = (31 * checkL (l.take k) + (l[k].toNat : Int)) % 9973 := foldl_take_succ l _ _ hk
theorem checkL_in (l : List UInt8) : 0 ≤ checkL l ∧ checkL l < 9973 := by
  unfold checkL
  have key : ∀ (l : List UInt8) (n : Int), 0 ≤ n ∧ n < 9973 → 0 ≤ l.foldl (fun n b => (31 * n + (b.toNat : Int)) % 9973) n ∧ l.foldl (fun n b => (31 * n + (b.toNat : Int)) % 9973) n < 9973 := by
    intro l
    induction l with
    | nil => intro n h; exact h
    | cons b l ih =>
      intro n h
      rw [List.foldl_cons]
      exact ih _ ⟨by omega, by omega⟩
  exact key l 0 (by omega)
def bookSum (bt bn bw : Int) (cs : List Chan) (hs : List Htlc) (os : List Circle) : Int := if bookB bt bn bw cs hs os = true then checkL (bookL bt bn bw cs hs os) else -1
end Go.Proofs.YtcjbjpobpefehaaGreatDoor

namespace Go.Proofs.YtcjbjpobpefehaaGreatDoor
open Go.RowKit Go.Deep

/-- a book's value -/
def bkVal (b : Bk) (A1 A2 A3 : Option Addr) (p1 p2 p3 : Nat) : Value := .agg #[.int .i64 b.t, .int .i64 b.n, .int .i64 b.w, .slice A1 b.cs.length p1, .slice A2 b.hs.length p2, .slice A3 b.os.length p3]
structure OwB (w : World) (B : Nat) (b : Bk) (A1 A2 A3 : Option Addr) (p1 p2 p3 : Nat) : Prop where
  c : Ow w B 44 7 (.slice A1 b.cs.length p1) (b.cs.map Chan.cells)
  h : Ow w B 46 7 (.slice A2 b.hs.length p2) (b.hs.map Htlc.cells)
  o : Ow w B 49 5 (.slice A3 b.os.length p3) (b.os.map Circle.cells)
section
variable {w w' : World} {B B' : Nat} {b : Bk} {A1 A2 A3 : Option Addr} {p1 p2 p3 : Nat}
theorem OwB.below (h : OwB w B b A1 A2 A3 p1 p2 p3) (hb : Below w.heap.size w w') : OwB w' B b A1 A2 A3 p1 p2 p3 := ⟨h.c.below hb, h.h.below hb, h.o.below hb⟩
theorem OwB.more (h : OwB w B b A1 A2 A3 p1 p2 p3) (hB : B' ≤ B) : OwB w B' b A1 A2 A3 p1 p2 p3 := ⟨h.c.more hB, h.h.more hB, h.o.more hB⟩
theorem OwB.alloc (h : OwB w B b A1 A2 A3 p1 p2 p3) (o : Obj) : OwB (w.alloc o) B b A1 A2 A3 p1 p2 p3 := ⟨h.c.alloc o, h.h.alloc o, h.o.alloc o⟩
theorem OwB.rd (h : OwB w B b A1 A2 A3 p1 p2 p3) : RdBook w w.heap.size A1 b.cs A2 b.hs A3 b.os := ⟨h.c.rd, h.h.rd, h.o.rd⟩
theorem OwB.fr {ts : List TypeId} (h : OwB w B b A1 A2 A3 p1 p2 p3) (hf : Fr ts w w') (h1 : 44 ∉ ts) (h2 : 46 ∉ ts) (h3 : 49 ∉ ts) : OwB w' B b A1 A2 A3 p1 p2 p3 := ⟨hf.ow h.c h1, hf.ow h.h h2, hf.ow h.o h3⟩
/-- a store into a block that is none of the slices' -/
theorem OwB.aside (h : OwB w B b A1 A2 A3 p1 p2 p3) {X i : Nat} {t : TypeId} {cs : Array Value} (hx : w.heap[X]? = some (.cells cs t (0, 0))) (h1 : 44 ≠ t) (h2 : 46 ≠ t) (h3 : 49 ≠ t) (u : Value) : OwB (w.setCell ⟨X, i, none⟩ u) B b A1 A2 A3 p1 p2 p3 :=
  ⟨h.c.aside hx h1 u, h.h.aside hx h2 u, h.o.aside hx h3 u⟩
theorem OwB.drew (h : OwB w B b A1 A2 A3 p1 p2 p3) : OwB w.drew B b A1 A2 A3 p1 p2 p3 := ⟨h.c, h.h, h.o⟩
end
theorem OwB.nil_ (w : World) (B : Nat) (t n u : Int) : OwB w B ⟨t, n, u, [], [], []⟩ none none none 0 0 0 := ⟨Ow.nil_, Ow.nil_, Ow.nil_⟩
end Go.Proofs.YtcjbjpobpefehaaGreatDoor

namespace Go.Proofs.YtcjbjpobpefehaaGreatDoor
open Go.RowKit Go.Deep

def strC (l : List UInt8) : List Value := [.string ⟨l.toArray⟩]
theorem strs_uni (l : List (List UInt8)) : ∀ r ∈ l.map strC, r.length = 1 := by
  intro r hr
  obtain ⟨x, _, rfl⟩ := List.mem_map.1 hr
  rfl
theorem strs_rd {w : World} {B : Nat} {A : Option Addr} {l : List (List UInt8)} (h : Rd w B 1 A (l.map strC)) {k : Nat} (hk : k < l.length) :
    ∃ b off, A = some ⟨b, off, none⟩ ∧ b < B ∧ w.cell? ⟨b, off + k, none⟩ = some (.string ⟨l[k].toArray⟩) := by
  obtain ⟨b, off, e, hb, hc⟩ := h.2 (by rw [List.length_map]; omega)
  have hk' : (l.map strC)[k]? = some (strC l[k]) := by rw [List.getElem?_map, List.getElem?_eq_getElem hk]; rfl
  have := hc k _ 0 _ hk' rfl
  rw [Nat.mul_one, Nat.add_zero] at this
  exact ⟨b, off, e, hb, this⟩
theorem strs_flat (l : List (List UInt8)) : (l.map strC).flatten = l.map (fun x : List UInt8 => Value.string ⟨x.toArray⟩) := by
  induction l with
  | nil => rfl
  | cons x l ih =>
    rw [List.map_cons, List.flatten_cons, ih]
    rfl
theorem strs_at {l : List (List UInt8)} {i : Nat} (h : i < l.length) : (l.map strC)[i]? = some [.string ⟨l[i].toArray⟩] := by rw [List.getElem?_map, List.getElem?_eq_getElem h]; rfl
/-- a block that holds the rows and nothing else -/
theorem Ow.whole {w : World} {B size : Nat} {e : TypeId} (rows : List (List Value)) (hu : ∀ r ∈ rows, r.length = size) (hB : B ≤ w.heap.size) (hm : rows.length ≤ maxLen) :
    Ow (w.alloc (.cells rows.flatten.toArray e)) B e size (.slice (some ⟨w.heap.size, 0, none⟩) rows.length rows.length) rows :=
  Fill.ow ⟨rows.flatten.toArray, heap_at rfl, by simpa using flatten_size rows size hu, fun j hj => by simp⟩ hu hB hm
theorem info_str : (Tryz.prog.info? 9).map (fun i => (i.zero, i.size, i.bytes)) = some (some (.string ByteArray.empty), 1, 16) := by kernel_rfl
theorem i_Join (ls : List (List UInt8)) (A : Option Addr) (cap : Nat) (w : World) (h0 : 0 < ls.length) (hN : ls.length ≤ 1000) (hcap : ls.length ≤ cap) (hr : Rd w w.heap.size 1 A (ls.map strC)) (hlen : (Lib.join ls [32]).length ≤ 100000) :
    Calls Tryz.prog 52 #[.slice A ls.length cap, .string ⟨#[32]⟩] w fun e w' => e = .returned (.string ⟨(Lib.join ls [32]).toArray⟩) ∧ Below w.heap.size w w' := by
  obtain ⟨b, off, rfl, hb, _⟩ := strs_rd hr h0
  have e1 : (ls.map fun l : List UInt8 => (⟨l.toArray⟩ : ByteArray)).map (·.data.toList) = ls := by
    rw [List.map_map]
    conv => rhs; rw [← List.map_id ls]
    exact List.map_congr_left fun x _ => rfl
  have h := Tryz.strings_Join b off cap (ls.map fun l : List UInt8 => (⟨l.toArray⟩ : ByteArray)) ⟨#[32]⟩ w (fun j x hx => by
      rw [List.getElem?_map] at hx
      have hj : j < ls.length := by
        by_cases hj : j < ls.length
        · exact hj
        · rw [List.getElem?_eq_none (by omega)] at hx
          cases hx
      rw [List.getElem?_eq_getElem hj] at hx
      simp only [Option.map_some, Option.some.injEq] at hx
      subst hx
      obtain ⟨b', off', e', _, hc⟩ := strs_rd hr hj
      simp only [Option.some.injEq, Addr.mk.injEq] at e'
      rw [e'.1, e'.2.1]
      exact hc) hb (by rw [List.length_map]; omega) (by rw [List.length_map]; exact hcap) (by
      rw [e1]
      show (Lib.join ls [32]).length ≤ _
      omega)
  rw [e1, List.length_map] at h
  exact h
theorem i_Split (s : ByteArray) (b : UInt8) (w : World) (h : Ld w) (hs : s.size < 4294967281) : Calls Tryz.prog 57 #[.string s, .string ⟨#[b]⟩] w fun e w' =>
    e = .returned (.slice (some ⟨w.heap.size, 0, none⟩) (parts b s.data.toList).length (parts b s.data.toList).length) ∧ Ow w' w.heap.size 9 1 (.slice (some ⟨w.heap.size, 0, none⟩) (parts b s.data.toList).length (parts b s.data.toList).length) ((parts b s.data.toList).map strC) ∧ Below w.heap.size w w' := by
  obtain ⟨m, hm⟩ := h.ml
  refine (Tryz.strings_Split s ⟨#[b]⟩ m w hs hm (Nat.le_refl 1)).mono ?_
  rintro e w' ⟨rfl, rfl⟩
  rw [split_count]
  refine ⟨rfl, ?_, (Below.refl _ _).alloc (Nat.le_refl _) _⟩
  have hl := parts_len b s.data.toList
  have hz : s.data.toList.length = s.size := Array.length_toList
  have := Ow.whole (w := w) (B := w.heap.size) (e := 9) ((parts b s.data.toList).map strC) (strs_uni _) (Nat.le_refl _) (by rw [List.length_map]; unfold maxLen; omega)
  rw [strs_flat, List.length_map] at this
  rw [split_row]
  exact this
set_option maxRecDepth 100000 in
set_option maxHeartbeats 1000000 in
theorem i_withNumbers (lw : List UInt8) (s : ByteArray) (ns : List Int) (A : Option Addr) (cap : Nat) (w : World) (hld : Ld w) (hs : Str lw s) (hl : ns.length ≤ 16) (hlw : lw.length ≤ 32) (hr : Rd w w.heap.size 1 A (ns.map intCells)) :
    Calls Tryz.prog 19 #[.string s, .slice A ns.length cap] w fun e w' => e = .returned (.string ⟨(numsC lw ns).toArray⟩) ∧ Below w.heap.size w w' := by
  have HLD := Lib.hid hld
  have HR := Lib.hid hr
  have H0 := Lib.hid (show Ow (w.alloc (.cells #[.string s] 9)) w.heap.size 9 1 (.slice (some ⟨w.heap.size, 0, none⟩) ((lw :: (ns.take 0).map numL).length) 1) ((lw :: (ns.take 0).map numL).map strC) by
    rw [hs]
    exact Ow.whole [strC lw] (by simp [strC]) (Nat.le_refl _) (show 1 ≤ maxLen by decide))
  have HJ := Lib.hid (join_words lw (ns.map numL))
  have HB := Lib.hid (numsC_len lw ns)
  clear hld hr hs
  obtain ⟨i0, hi, hz0, hz1, hz2⟩ := info_parts info_str
  have HI := Lib.hid hi
  have HZ0 := Lib.hid hz0
  have HZ1 := Lib.hid hz1
  have HZ2 := Lib.hid hz2
  clear hi hz0 hz1 hz2
  go_enter Tryz.func19, Tryz.ntmps19
  go_wp2_with fail
  go_loopw [5, 12] (fun v i wr => ∃ (k : Nat) (B : Option Addr) (cp : Nat), k ≤ ns.length ∧ i = .int .i64 k ∧ v = .slice B (lw :: (ns.take k).map numL).length cp ∧ Ow wr w.heap.size 9 1 (.slice B (lw :: (ns.take k).map numL).length cp) ((lw :: (ns.take k).map numL).map strC) ∧ Below w.heap.size w wr) (fun _ i _ => ns.length - (intOf i).toNat)
  case atStart => exact ⟨0, _, _, Nat.zero_le _, rfl, rfl, H0.out, by (first | ((repeat' first | (with_reducible (first | exact Below.refl _ _ | assumption | refine Below.setCell ?_ ?_ _ | refine Below.alloc ?_ ?_ _ | refine Below.drew ?_ | refine below_drewN ?_ _ | refine Below.trans ?_ (Below.mono (by assumption) ?_))) | omega | (simp; omega) | (simp; done)); done) | (repeat' first | exact Below.refl _ _ | assumption | refine Below.setCell ?_ (by first | omega | (simp; omega) | (simp; done)) _ | refine Below.alloc ?_ (by first | omega | (simp; omega) | (simp; done)) _ | refine Below.drew ?_ | refine below_drewN ?_ _ | refine Below.trans ?_ (Below.mono (by assumption) (by first | omega | (simp; omega) | (simp; done)))))⟩
  case round =>
    obtain ⟨k, B, cp, hk, rfl, rfl, how, hbw⟩ := hrel
    have hbz := hbw.size
    have hrl : (lw :: (ns.take k).map numL).length ≤ 80 := by simp; omega
    have OB := Lib.hid how.block
    have HW := Lib.hid how
    clear how H0
    by_cases hlt : k < ns.length
    · obtain ⟨b, off, rfl, hbB, c0⟩ := ints_rd (HR.out.below hbw) hlt
      have HK := Lib.hid (show lw :: (ns.take (k + 1)).map numL = (lw :: (ns.take k).map numL) ++ [numL ns[k]] by
        rw [List.take_succ_eq_append_getElem hlt, List.map_append]
        rfl)
      obtain ⟨RS, hRS⟩ : ∃ R, (lw :: (ns.take k).map numL) = R := ⟨_, rfl⟩
      rw [hRS] at hrl OB HW HK ⊢
      clear hRS
      go_wp2_with fail
      refine (i_NumText _ _ (HLD.out.below (by (first | ((repeat' first | (with_reducible (first | exact Below.refl _ _ | assumption | refine Below.setCell ?_ ?_ _ | refine Below.alloc ?_ ?_ _ | refine Below.drew ?_ | refine below_drewN ?_ _ | refine Below.trans ?_ (Below.mono (by assumption) ?_))) | omega | (simp; omega) | (simp; done)); done) | (repeat' first | exact Below.refl _ _ | assumption | refine Below.setCell ?_ (by first | omega | (simp; omega) | (simp; done)) _ | refine Below.alloc ?_ (by first | omega | (simp; omega) | (simp; done)) _ | refine Below.drew ?_ | refine below_drewN ?_ _ | refine Below.trans ?_ (Below.mono (by assumption) (by first | omega | (simp; omega) | (simp; done)))))))).mono ?_
      rintro e w1 ⟨rfl, hb1⟩
      have z1 := hb1.size
      obtain ⟨s1, hs1', hs1⟩ := str_of (numL ns[k])
      rw [hs1']
      clear hs1'
      have hb2 : Below w.heap.size w w1 := by (first | ((repeat' first | (with_reducible (first | exact Below.refl _ _ | assumption | refine Below.setCell ?_ ?_ _ | refine Below.alloc ?_ ?_ _ | refine Below.drew ?_ | refine below_drewN ?_ _ | refine Below.trans ?_ (Below.mono (by assumption) ?_))) | omega | (simp; omega) | (simp; done)); done) | (repeat' first | exact Below.refl _ _ | assumption | refine Below.setCell ?_ (by first | omega | (simp; omega) | (simp; done)) _ | refine Below.alloc ?_ (by first | omega | (simp; omega) | (simp; done)) _ | refine Below.drew ?_ | refine below_drewN ?_ _ | refine Below.trans ?_ (Below.mono (by assumption) (by first | omega | (simp; omega) | (simp; done)))))
      have HW1 := Lib.hid (HW.out.below hb1)
      have KB := Lib.hid (fun o1 (w6 : World) (hgr : (w1.alloc o1).grownBy w6 (Value.slice B RS.length cp).ownBlock) => (hb2.alloc (by omega) o1).grown hgr (by simp; omega) (fun k e => (OB.out k e).1))
      clear hb1 HW
      go_wp2_with (at_builtin; refine wpList_app1 rfl _ _ _ rfl w.heap.size 9 i0 _ 1 16 Tryz.underlying51 HI.out HZ0.out HZ1.out HZ2.out rfl (by decide) (.slice B RS.length cp) (RS.map strC) rfl (HW1.out.alloc _) w1.heap.size 1 [.string s1] 9 rfl (heap_at (by first | rfl | (simp; done))) rfl (by simp [Value.oneCell']) (by rw [List.length_map]; omega) (by decide) (by first | omega | (simp; omega) | (simp; done)) ?_; intro g cap' w6 how6 hgr6 hat6 hlt6; rw [List.length_map] at how6; rw [List.length_map]; have hb6 := KB.out _ _ hgr6; have O6 := Lib.hid how6; clear how6 hgr6 hat6)
      go_roundw
      case rel =>
        refine ⟨k + 1, some ⟨g, 0, none⟩, cap', by omega, by go_num, by rw [HK.out, List.length_append]; rfl, ?_, hb6⟩
        rw [HK.out, List.map_append, List.length_append]
        have := O6.out
        rw [hs1.out] at this
        exact this
      case measure => simp [intOf]; omega
    · obtain rfl : k = ns.length := by omega
      rw [List.take_length] at HW ⊢
      clear OB
      have hjl : (Lib.join (lw :: ns.map numL) [32]).length ≤ 100000 := by
        rw [HJ.out]
        have := HB.out
        unfold numsC at this
        omega
      have h0 : 0 < (lw :: ns.map numL).length := by simp
      have hN : (lw :: ns.map numL).length ≤ 1000 := by simp; omega
      have HJ2 := Lib.hid (show Lib.join (lw :: ns.map numL) [32] = numsC lw ns from HJ.out)
      obtain ⟨LS, hLS⟩ : ∃ LS, lw :: ns.map numL = LS := ⟨_, rfl⟩
      rw [hLS] at HW hjl h0 hN HJ2 ⊢
      clear hLS HJ hrl
      have hcap : LS.length ≤ cp := by
        obtain ⟨A', cap'', e1, _, h2, _⟩ := HW.out.form
        rw [List.length_map] at h2
        injection e1 with _ _ e3
        omega
      have HRd := Lib.hid HW.out.rd
      go_wp2_with fail
      refine (i_Join LS _ _ _ h0 hN hcap HRd.out hjl).mono ?_
      rintro e w1 ⟨rfl, hb1⟩
      have z1 := hb1.size
      rw [HJ2.out]
      go_wp2_with fail
      go_ret
      exact ⟨rfl, by (first | ((repeat' first | (with_reducible (first | exact Below.refl _ _ | assumption | refine Below.setCell ?_ ?_ _ | refine Below.alloc ?_ ?_ _ | refine Below.drew ?_ | refine below_drewN ?_ _ | refine Below.trans ?_ (Below.mono (by assumption) ?_))) | omega | (simp; omega) | (simp; done)); done) | (repeat' first | exact Below.refl _ _ | assumption | refine Below.setCell ?_ (by first | omega | (simp; omega) | (simp; done)) _ | refine Below.alloc ?_ (by first | omega | (simp; omega) | (simp; done)) _ | refine Below.drew ?_ | refine below_drewN ?_ _ | refine Below.trans ?_ (Below.mono (by assumption) (by first | omega | (simp; omega) | (simp; done)))))⟩
end Go.Proofs.YtcjbjpobpefehaaGreatDoor

namespace Go.Proofs.YtcjbjpobpefehaaGreatDoor
open Go

theorem words_no {b : UInt8} (hb : b ≠ 32) : ∀ {ws : List (List UInt8)} {w : List UInt8}, b ∉ w → (∀ x ∈ ws, b ∉ x) → b ∉ wordsC w ws
  | [], w, h, _ => by simpa [wordsC] using h
  | x :: ws, w, h, hx => by
    rw [wordsC_cons]
    refine words_no hb ?_ (fun y hy => hx y (by simp [hy]))
    simp only [List.mem_append, List.mem_cons, not_or]
    exact ⟨h, hb, hx x (by simp)⟩
theorem words_cut : ∀ {ws : List (List UInt8)} {w : List UInt8}, (32 : UInt8) ∉ w → (∀ x ∈ ws, (32 : UInt8) ∉ x) → parts 32 (wordsC w ws) = w :: ws := by
  intro ws w h hx
  unfold wordsC
  induction ws generalizing w with
  | nil => simpa using parts_none h
  | cons x ws ih =>
    rw [List.map_cons, List.flatten_cons, List.cons_append, parts_mid _ h, ih (hx x (by simp)) (fun y hy => hx y (by simp [hy]))]
theorem nums_no {b : UInt8} (h : b = 10 ∨ b = 32 ∨ b = 58 ∨ b = 62) (ns : List Int) : ∀ x ∈ ns.map numL, b ∉ x := by
  intro x hx
  obtain ⟨n, _, rfl⟩ := List.mem_map.1 hx
  exact num_no h
theorem headC_cut (bt bn bw : Int) : parts 32 (headC bt bn bw) = [bookW, numL bt, numL bn, numL bw] := words_cut (by decide) (nums_no (by simp) _)
theorem chanC_cut (c : Chan) : parts 32 (chanC c) = [chanW, numL c.Id, numL c.Size, numL c.Local, numL c.Remote, numL c.Base, numL c.Ppm, numL c.Score] := words_cut (by decide) (nums_no (by simp) _)
theorem circC_cut (c : Circle) : parts 32 (circC c) = [circW, numL c.Key, numL c.From, numL c.To, numL c.Amt, numL c.Fee] := words_cut (by decide) (nums_no (by simp) _)
theorem htlc_words {b : UInt8} (h : b = 10 ∨ b = 32) (x : Htlc) : ∀ y ∈ [x.Key, x.In, x.Out, x.AmtIn, x.AmtOut].map numL ++ [keptW x.Kept, numL x.Age], b ∉ y := by
  have h4 : b = 10 ∨ b = 32 ∨ b = 58 ∨ b = 62 := by rcases h with h | h <;> simp [h]
  intro y hy
  rcases List.mem_append.1 hy with hy | hy
  · exact nums_no h4 _ y hy
  · rcases List.mem_cons.1 hy with rfl | hy
    · unfold keptW
      rcases h with rfl | rfl <;> split <;> decide
    · rcases List.mem_singleton.1 hy with rfl
      exact num_no h4
theorem htlcC_cut (h : Htlc) : parts 32 (htlcC h) = [htlcW, numL h.Key, numL h.In, numL h.Out, numL h.AmtIn, numL h.AmtOut, keptW h.Kept, numL h.Age] := words_cut (by decide) (htlc_words (by simp) h)
theorem headC_no (bt bn bw : Int) : (10 : UInt8) ∉ headC bt bn bw := words_no (by decide) (by decide) (nums_no (by simp) _)
theorem chanC_no (c : Chan) : (10 : UInt8) ∉ chanC c := words_no (by decide) (by decide) (nums_no (by simp) _)
theorem circC_no (c : Circle) : (10 : UInt8) ∉ circC c := words_no (by decide) (by decide) (nums_no (by simp) _)
theorem htlcC_no (h : Htlc) : (10 : UInt8) ∉ htlcC h := words_no (by decide) (by decide) (htlc_words (by simp) h)
theorem over_cut : parts 32 overW = [overW] := parts_none (by decide)
def bookRows (cs : List Chan) (hs : List Htlc) (os : List Circle) : List (List UInt8) := cs.map chanC ++ (hs.map htlcC ++ (os.map circC ++ [overW]))
theorem book_parts (bt bn bw : Int) (cs : List Chan) (hs : List Htlc) (os : List Circle) : parts 10 (bookTo bt bn bw cs hs os ++ (overW ++ [10])) = (headC bt bn bw :: bookRows cs hs os) ++ [[]] := by
  have e : bookTo bt bn bw cs hs os ++ (overW ++ [10]) = headC bt bn bw ++ 10 :: ((cs.map fun x => chanC x ++ [10]).flatten ++ ((hs.map fun x => htlcC x ++ [10]).flatten ++ ((os.map fun x => circC x ++ [10]).flatten ++ (overW ++ [10])))) := by
    unfold bookTo rows10
    rw [show row10 chanC = fun x => chanC x ++ [10] from rfl, show row10 htlcC = fun x => htlcC x ++ [10] from rfl, show row10 circC = fun x => circC x ++ [10] from rfl]
    simp
  rw [e, parts_mid _ (headC_no bt bn bw), lines_parts_to chanC chanC_no, lines_parts_to htlcC htlcC_no, lines_parts_to circC circC_no, show overW ++ [10] = overW ++ 10 :: [] from rfl, parts_mid _ (by decide)]
  simp [bookRows, parts]
theorem chanIx_mem {cs : List Chan} {ch : Int} (h : 0 ≤ chanIx cs ch) : ∃ c ∈ cs, c.Id = ch := by
  unfold chanIx at h
  split at h
  · rename_i i hi
    obtain ⟨hk, hp, _⟩ := List.findIdx?_eq_some_iff_getElem.1 hi
    refine ⟨cs[i], List.getElem_mem hk, ?_⟩
    simpa [notId] using hp
  · omega
structure BookNums (bt bn bw : Int) (cs : List Chan) (hs : List Htlc) (os : List Circle) : Prop where
  t : numB bt = true
  n : numB bn = true
  w : numB bw = true
  c : ∀ c ∈ cs, numB c.Id = true ∧ numB c.Size = true ∧ numB c.Local = true ∧ numB c.Remote = true ∧ numB c.Base = true ∧ numB c.Ppm = true ∧ numB c.Score = true
  h : ∀ h ∈ hs, numB h.Key = true ∧ numB h.In = true ∧ numB h.Out = true ∧ numB h.AmtIn = true ∧ numB h.AmtOut = true ∧ numB h.Age = true
  o : ∀ o ∈ os, numB o.Key = true ∧ numB o.From = true ∧ numB o.To = true ∧ numB o.Amt = true ∧ numB o.Fee = true
theorem book_nums {bt bn bw : Int} {cs : List Chan} {hs : List Htlc} {os : List Circle} (hb : bookB bt bn bw cs hs os = true) : BookNums bt bn bw cs hs os := by
  have f := bookB_facts hb
  have f1 := f.t
  have f2 := f.n
  have f3 := f.w
  have hch : ∀ c ∈ cs, (1 ≤ c.Id ∧ c.Id ≤ 99) ∧ (0 ≤ c.Local ∧ c.Local ≤ 1125899906842624) ∧ (0 ≤ c.Remote ∧ c.Remote ≤ 1125899906842624) ∧ (0 ≤ c.Base ∧ c.Base ≤ 1125899906842624) ∧ (0 ≤ c.Ppm ∧ c.Ppm ≤ 1000000) ∧ (-100 ≤ c.Score ∧ c.Score ≤ 100) ∧ (0 ≤ c.Size ∧ c.Size ≤ 1125899906842624) := by
    intro c hc
    obtain ⟨k, hk, rfl⟩ := List.mem_iff_getElem.1 hc
    have := f.ch k hk
    simp only [chB, Bool.and_eq_true, amtB_iff, inB_iff, isChanB_iff] at this
    omega
  have hid : ∀ ch, 0 ≤ chanIx cs ch → 1 ≤ ch ∧ ch ≤ 99 := by
    intro ch h
    obtain ⟨c, hc, rfl⟩ := chanIx_mem h
    exact (hch c hc).1
  have hp := f.parts
  simp only [partsB, Bool.and_eq_true] at hp
  have hkey : ∀ x ∈ keysOf hs os, 1 ≤ x ∧ x ≤ 1000000 := by
    intro x hx
    obtain ⟨k, hk, rfl⟩ := List.mem_iff_getElem.1 hx
    have := everyTo_iff.1 hp.2 k hk
    rw [keyAt_eq hk, Bool.and_eq_true, inB_iff] at this
    exact this.1
  refine ⟨numB_iff.2 (by omega), numB_iff.2 (by omega), numB_iff.2 (by omega), fun c hc => ?_, fun h hh => ?_, fun o ho => ?_⟩
  · have := hch c hc
    simp only [numB_iff]
    omega
  · have h1 := List.all_eq_true.1 hp.1.1 h hh
    simp only [htlcB, twoB, Bool.and_eq_true, amtB_iff, inB_iff, decide_eq_true_eq] at h1
    have h2 := hid _ h1.1.1.1.1.2
    have h3 := hid _ h1.1.1.1.2
    have h4 := hkey h.Key (by unfold keysOf; exact List.mem_append_left _ (List.mem_map_of_mem hh))
    simp only [numB_iff]
    omega
  · have h1 := List.all_eq_true.1 hp.1.2 o ho
    simp only [circB, twoB, Bool.and_eq_true, amtB_iff, inB_iff, decide_eq_true_eq] at h1
    have h2 := hid _ h1.1.1.1.2
    have h3 := hid _ h1.1.1.2
    have h4 := hkey o.Key (by unfold keysOf; exact List.mem_append_right _ (List.mem_map_of_mem ho))
    simp only [numB_iff]
    omega
end Go.Proofs.YtcjbjpobpefehaaGreatDoor

namespace Go.Proofs.YtcjbjpobpefehaaGreatDoor
open Go

theorem take_map {α β : Type} (f : α → β) (p : β → Bool) (hp : ∀ x, p (f x) = true) : ∀ (l : List α) (r : List β), r.takeWhile p = [] → (l.map f ++ r).takeWhile p = l.map f
  | [], r, h => by simpa using h
  | x :: l, r, h => by
    rw [List.map_cons, List.cons_append, List.takeWhile_cons, if_pos (hp x), take_map f p hp l r h]
def firstIs (w : List UInt8) (row : List UInt8) : Bool := (parts 32 row).headD [] == w
theorem first_chan (c : Chan) (w : List UInt8) : firstIs w (chanC c) = (chanW == w) := by unfold firstIs; rw [chanC_cut]; rfl
theorem first_htlc (c : Htlc) (w : List UInt8) : firstIs w (htlcC c) = (htlcW == w) := by unfold firstIs; rw [htlcC_cut]; rfl
theorem first_circ (c : Circle) (w : List UInt8) : firstIs w (circC c) = (circW == w) := by unfold firstIs; rw [circC_cut]; rfl
theorem first_over (w : List UInt8) : firstIs w overW = (overW == w) := by unfold firstIs; rw [over_cut]; rfl
theorem split_eq {α : Type} {f : α → List UInt8} {w : List UInt8} (hf : ∀ x, firstIs w (f x) = true) {l l' : List α} {r r' : List (List UInt8)} (hr : r.takeWhile (firstIs w) = []) (hr' : r'.takeWhile (firstIs w) = []) (e : l.map f ++ r = l'.map f ++ r') : l.map f = l'.map f ∧ r = r' := by
  have h := congrArg (List.takeWhile (firstIs w)) e
  rw [take_map f _ hf l r hr, take_map f _ hf l' r' hr'] at h
  rw [h] at e
  exact ⟨h, List.append_cancel_left e⟩
theorem chanC_inj {x y : Chan} (hx : numB x.Id = true ∧ numB x.Size = true ∧ numB x.Local = true ∧ numB x.Remote = true ∧ numB x.Base = true ∧ numB x.Ppm = true ∧ numB x.Score = true) (hy : numB y.Id = true ∧ numB y.Size = true ∧ numB y.Local = true ∧ numB y.Remote = true ∧ numB y.Base = true ∧ numB y.Ppm = true ∧ numB y.Score = true) (e : chanC x = chanC y) : x = y := by
  have h := chanC_cut x
  rw [e, chanC_cut y] at h
  simp only [List.cons.injEq, and_true, true_and] at h
  obtain ⟨h1, h2, h3, h4, h5, h6, h7⟩ := h
  have e1 := numL_inj hy.1 hx.1 h1
  have e2 := numL_inj hy.2.1 hx.2.1 h2
  have e3 := numL_inj hy.2.2.1 hx.2.2.1 h3
  have e4 := numL_inj hy.2.2.2.1 hx.2.2.2.1 h4
  have e5 := numL_inj hy.2.2.2.2.1 hx.2.2.2.2.1 h5
  have e6 := numL_inj hy.2.2.2.2.2.1 hx.2.2.2.2.2.1 h6
  have e7 := numL_inj hy.2.2.2.2.2.2 hx.2.2.2.2.2.2 h7
  cases x
  cases y
  simp_all
theorem circC_inj {x y : Circle} (hx : numB x.Key = true ∧ numB x.From = true ∧ numB x.To = true ∧ numB x.Amt = true ∧ numB x.Fee = true) (hy : numB y.Key = true ∧ numB y.From = true ∧ numB y.To = true ∧ numB y.Amt = true ∧ numB y.Fee = true) (e : circC x = circC y) : x = y := by
  have h := circC_cut x
  rw [e, circC_cut y] at h
  simp only [List.cons.injEq, and_true, true_and] at h
  obtain ⟨h1, h2, h3, h4, h5⟩ := h
  have e1 := numL_inj hy.1 hx.1 h1
  have e2 := numL_inj hy.2.1 hx.2.1 h2
  have e3 := numL_inj hy.2.2.1 hx.2.2.1 h3
  have e4 := numL_inj hy.2.2.2.1 hx.2.2.2.1 h4
  have e5 := numL_inj hy.2.2.2.2 hx.2.2.2.2 h5
  cases x
  cases y
  simp_all
theorem keptW_inj {a b : Bool} (h : keptW a = keptW b) : a = b := by
  cases a <;> cases b <;> simp [keptW] at h <;> rfl
theorem htlcC_inj {x y : Htlc} (hx : numB x.Key = true ∧ numB x.In = true ∧ numB x.Out = true ∧ numB x.AmtIn = true ∧ numB x.AmtOut = true ∧ numB x.Age = true) (hy : numB y.Key = true ∧ numB y.In = true ∧ numB y.Out = true ∧ numB y.AmtIn = true ∧ numB y.AmtOut = true ∧ numB y.Age = true) (e : htlcC x = htlcC y) : x = y := by
  have h := htlcC_cut x
  rw [e, htlcC_cut y] at h
  simp only [List.cons.injEq, and_true, true_and] at h
  obtain ⟨h1, h2, h3, h4, h5, h6, h7⟩ := h
  have e1 := numL_inj hy.1 hx.1 h1
  have e2 := numL_inj hy.2.1 hx.2.1 h2
  have e3 := numL_inj hy.2.2.1 hx.2.2.1 h3
  have e4 := numL_inj hy.2.2.2.1 hx.2.2.2.1 h4
  have e5 := numL_inj hy.2.2.2.2.1 hx.2.2.2.2.1 h5
  have e6 := keptW_inj h6
  have e7 := numL_inj hy.2.2.2.2.2 hx.2.2.2.2.2 h7
  cases x
  cases y
  simp_all
theorem book_cut {bt bn bw : Int} {cs : List Chan} {hs : List Htlc} {os : List Circle} (h : bookB bt bn bw cs hs os = true) : parts 10 (bookL bt bn bw cs hs os) = (headC bt bn bw :: bookRows cs hs os) ++ [[]] := by
  unfold bookL
  rw [if_pos h, book_parts]
theorem rows_stop_o (w : List UInt8) (hw : (overW == w) = false) : ([overW] : List (List UInt8)).takeWhile (firstIs w) = [] := by
  rw [List.takeWhile_cons, first_over, hw]
  rfl
theorem rows_stop_c (os : List Circle) (w : List UInt8) (h1 : (circW == w) = false) (h2 : (overW == w) = false) : (os.map circC ++ [overW]).takeWhile (firstIs w) = [] := by
  cases os with
  | nil => exact rows_stop_o w h2
  | cons o os =>
    rw [List.map_cons, List.cons_append, List.takeWhile_cons, first_circ, h1]
    rfl
theorem rows_stop_h (hs : List Htlc) (os : List Circle) (w : List UInt8) (h0 : (htlcW == w) = false) (h1 : (circW == w) = false) (h2 : (overW == w) = false) : (hs.map htlcC ++ (os.map circC ++ [overW])).takeWhile (firstIs w) = [] := by
  cases hs with
  | nil => exact rows_stop_c os w h1 h2
  | cons o hs =>
    rw [List.map_cons, List.cons_append, List.takeWhile_cons, first_htlc, h0]
    rfl
theorem bookL_inj {bt bn bw bt' bn' bw' : Int} {cs cs' : List Chan} {hs hs' : List Htlc} {os os' : List Circle} (h : bookB bt bn bw cs hs os = true) (h' : bookB bt' bn' bw' cs' hs' os' = true) (e : bookL bt bn bw cs hs os = bookL bt' bn' bw' cs' hs' os') :
    bt = bt' ∧ bn = bn' ∧ bw = bw' ∧ cs = cs' ∧ hs = hs' ∧ os = os' := by
  have n := book_nums h
  have n' := book_nums h'
  have hp := book_cut h
  rw [e, book_cut h'] at hp
  have hq := List.append_cancel_right hp
  simp only [List.cons.injEq] at hq
  obtain ⟨q1, q2⟩ := hq
  have r1 := headC_cut bt bn bw
  rw [← q1, headC_cut bt' bn' bw'] at r1
  simp only [List.cons.injEq, and_true, true_and] at r1
  obtain ⟨a1, a2, a3⟩ := r1
  unfold bookRows at q2
  obtain ⟨c1, q3⟩ := split_eq (w := chanW) (fun x => by rw [first_chan]; decide) (rows_stop_h hs' os' chanW (by decide) (by decide) (by decide)) (rows_stop_h hs os chanW (by decide) (by decide) (by decide)) q2
  obtain ⟨c2, q4⟩ := split_eq (w := htlcW) (fun x => by rw [first_htlc]; decide) (rows_stop_c os' htlcW (by decide) (by decide)) (rows_stop_c os htlcW (by decide) (by decide)) q3
  obtain ⟨c3, _⟩ := split_eq (w := circW) (fun x => by rw [first_circ]; decide) (rows_stop_o circW (by decide)) (rows_stop_o circW (by decide)) q4
  refine ⟨numL_inj n.t n'.t a1.symm, numL_inj n.n n'.n a2.symm, numL_inj n.w n'.w a3.symm, ?_, ?_, ?_⟩
  · exact (map_inj_on (fun x y hx hy => chanC_inj hx hy) n'.c n.c c1).symm
  · exact (map_inj_on (fun x y hx hy => htlcC_inj hx hy) n'.h n.h c2).symm
  · exact (map_inj_on (fun x y hx hy => circC_inj hx hy) n'.o n.o c3).symm
/-- what a text says of a book -/
def BookIs (s : List UInt8) (bt bn bw : Int) (cs : List Chan) (hs : List Htlc) (os : List Circle) (ok : Bool) : Prop :=
  (ok = true ∧ bookB bt bn bw cs hs os = true ∧ bookL bt bn bw cs hs os = s) ∨
    (ok = false ∧ bt = 0 ∧ bn = 0 ∧ bw = 0 ∧ cs = [] ∧ hs = [] ∧ os = [] ∧ ∀ bt' bn' bw' cs' hs' os', bookB bt' bn' bw' cs' hs' os' = true → bookL bt' bn' bw' cs' hs' os' ≠ s)
theorem BookIs.one {s : List UInt8} {bt bn bw bt' bn' bw' : Int} {cs cs' : List Chan} {hs hs' : List Htlc} {os os' : List Circle} {ok ok' : Bool} (h : BookIs s bt bn bw cs hs os ok) (h' : BookIs s bt' bn' bw' cs' hs' os' ok') :
    bt = bt' ∧ bn = bn' ∧ bw = bw' ∧ cs = cs' ∧ hs = hs' ∧ os = os' ∧ ok = ok' := by
  rcases h with ⟨rfl, h1, h2⟩ | ⟨rfl, rfl, rfl, rfl, rfl, rfl, rfl, h1⟩ <;> rcases h' with ⟨rfl, h3, h4⟩ | ⟨rfl, rfl, rfl, rfl, rfl, rfl, rfl, h3⟩
  · obtain ⟨a, b, c, d, e, f⟩ := bookL_inj h1 h3 (h2.trans h4.symm)
    exact ⟨a, b, c, d, e, f, rfl⟩
  · exact absurd h2 (h3 _ _ _ _ _ _ h1)
  · exact absurd h4 (h1 _ _ _ _ _ _ h3)
  · exact ⟨rfl, rfl, rfl, rfl, rfl, rfl, rfl⟩
end Go.Proofs.YtcjbjpobpefehaaGreatDoor
