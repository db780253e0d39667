/- DRow · NumL · Parts · TNum · NumT: each text proves what its theorems say, with no conditions but theirs. -/
import Derived.Test.YtcjbjpobpefehaaGreatDoorRows
import Derived.ProofKit
import Derived.LaidMore
import Derived.OpenShut
import Derived.Lay
import Derived.Handed
import Derived.Stop.Joined
import Derived.Stop.LaidErr
import Derived.Lib.LaidTab
import Derived.Shelf.Vars
import Derived.ChangeMaps5
import Derived.Lib.ItoaNum
import Derived.Laws.Concat
import Derived.Lib.Replace
import Derived.Lib.Join
import Derived.Lib.AtoiTie
namespace Go.Proofs.YtcjbjpobpefehaaGreatDoor
open Go.ChangeShapes Go.WideShapes Go.ChangeAt Go.RowKit

theorem returnsInHanded_laid {H : Type} {enc : TypeId × Value → H} {a : Assume} {C : Checked} {os : Os} {f : FuncId} {fn : Func} {s : ChangeSpec} {conds : List PathCond} {apart fresh handsOn again : Bool} {laid : List (String × DataW Unit)}
    (own : ownKnob C.prog.godebug = none) (started : os.Started) (noInit : C.prog.inits.idxOf? f = none) (hfn : C.prog.funcs[f]? = some fn)
    (witness : ∃ (w : World) (tape : Tape) (i : Input), w.os = os ∧ (w.forCall tape i).Shaped C.prog ∧ i.vars = [] ∧ Input.okWide C.prog (w.forCall tape i) .any w.heap.size f i ∧
      ((s.pre enc C.prog fn conds apart (w.forCall tape i).memory i.args ∧ laidMetH C.prog laid (w.forCall tape i).memory) ∧ sizedMet enc C.prog fn (OpenSpec.ofChange s) apart (w.forCall tape i).memory i.args) ∧ a.holds C.prog (lone (Frame.enter C.prog f i.args .normal) [] (w.forCall tape i)))
    (contract : ∀ (W : World) (base : Nat) (args : Array Value) (ds gs : List (DataW H)) (before : List MemPlace),
      (∀ (j : Nat) t v, fn.params[j]? = some t → args[j]? = some v → Value.okWide C.prog W .any base t v) →
      DataW.Whole enc C.prog fn.params.toList s.vars apart W args.toList ds gs before →
      conds.all (PathCond.test C.prog ⟨fn.params.toList, ds, s.plain.varTypes C.prog, gs⟩) = true →
      laidMetH C.prog laid W → W.ShapedOpen C.prog →
      Calls C.prog f args W fun e W' => ∃ v, e = .returned v ∧ s.post enc C.prog fn apart fresh handsOn again W args v W') :
    ReturnsInHanded a C os f .any (fun w args => (s.pre enc C.prog fn conds apart w args ∧ laidMetH C.prog laid w) ∧ sizedMet enc C.prog fn (OpenSpec.ofChange s) apart w args) (s.post enc C.prog fn apart fresh handsOn again) := by
  refine returnsInHanded_of_calls own started noInit witness ?_
  intro w tape i _ hsh _ hok hpre _
  obtain ⟨_, _, _, fn', hfn', _, _, _, _, hval⟩ := hok
  have e : fn' = fn := Option.some.inj (hfn'.symm.trans hfn)
  subst e
  obtain ⟨⟨⟨ds, gs, before, hw, hc⟩, hx⟩, hz⟩ := hpre
  have hw' := DataW.Whole.of_heap (w' := w.forCall tape i) (by rfl) hw
  refine (contract (w.forCall tape i) w.heap.size i.args ds gs before hval hw' hc (hx.of_heap (by rfl)) hsh).mono fun e W' ⟨v, he, hp⟩ => ?_
  subst he
  exact ChangeSpec.post_blind hp
end Go.Proofs.YtcjbjpobpefehaaGreatDoor
namespace Go.Proofs.YtcjbjpobpefehaaGreatDoor
open Go

def numB (n : Int) : Bool := decide (-1125899906842624 ≤ n) && decide (n ≤ 1125899906842624)
def numL (n : Int) : List UInt8 := if numB n = true then Lib.itoa n else []
theorem numB_iff {n : Int} : numB n = true ↔ -1125899906842624 ≤ n ∧ n ≤ 1125899906842624 := by simp [numB]
theorem decDigits_len : ∀ (k u : Nat), u < 10 ^ (k + 1) → (Lib.decDigits u).length ≤ k + 1
  | 0, u, h => by rw [Lib.decDigits, dif_pos (by omega)]; simp
  | k + 1, u, h => by
    rw [Lib.decDigits]
    split
    · simp
    · have := decDigits_len k (u / 10) (by rw [Nat.div_lt_iff_lt_mul (by decide)]; rw [Nat.pow_succ] at h; exact h)
      rw [List.length_append]
      simp
      omega
theorem numL_len (n : Int) : (numL n).length ≤ 17 := by
  unfold numL
  split
  · rename_i h
    rw [numB_iff] at h
    unfold Lib.itoa
    split
    · have := decDigits_len 15 n.natAbs (by have : n.natAbs ≤ 1125899906842624 := by omega
                                            exact Nat.lt_of_le_of_lt this (by decide))
      simp
      omega
    · have := decDigits_len 15 n.toNat (by have : n.toNat ≤ 1125899906842624 := by omega
                                           exact Nat.lt_of_le_of_lt this (by decide))
      omega
  · simp
theorem numL_out {n : Int} (h : ¬ (-1125899906842624 ≤ n ∧ n ≤ 1125899906842624)) : numL n = [] := by
  unfold numL
  rw [if_neg (fun k => h (numB_iff.1 k))]
theorem numL_in {n : Int} (h : -1125899906842624 ≤ n ∧ n ≤ 1125899906842624) : numL n = Lib.itoa n := by
  unfold numL
  rw [if_pos (numB_iff.2 h)]
end Go.Proofs.YtcjbjpobpefehaaGreatDoor
namespace Go.Proofs.YtcjbjpobpefehaaGreatDoor
open Go

def parts (b : UInt8) : List UInt8 → List (List UInt8)
  | [] => [[]]
  | c :: s => if c = b then [] :: parts b s else (c :: (parts b s).headD []) :: (parts b s).tail
theorem parts_ne (b : UInt8) (s : List UInt8) : parts b s ≠ [] := by
  cases s with
  | nil => simp [parts]
  | cons c s => unfold parts; split <;> simp
theorem parts_cons (b : UInt8) (s : List UInt8) : parts b s = (parts b s).headD [] :: (parts b s).tail := by
  cases h : parts b s with
  | nil => exact absurd h (parts_ne b s)
  | cons p r => rfl
theorem ztb {b : UInt8} : ∀ {s : List UInt8}, b ∉ s → parts b s = [s]
  | [], _ => rfl
  | c :: s, h => by
    simp only [List.mem_cons, not_or] at h
    unfold parts
    rw [if_neg (fun e => h.1 e.symm), ztb h.2]
    rfl
theorem zye {b : UInt8} (s : List UInt8) : ∀ {x : List UInt8}, b ∉ x → parts b (x ++ b :: s) = x :: parts b s
  | [], _ => by
    rw [List.nil_append, parts, if_pos rfl]
  | c :: x, h => by
    simp only [List.mem_cons, not_or] at h
    rw [List.cons_append, parts, if_neg (fun e => h.1 e.symm), zye s h.2]
    rfl
theorem pref_ne {b c : UInt8} {l : List UInt8} (h : b ≠ c) : [b].isPrefixOf (c :: l) = false := by
  unfold List.isPrefixOf
  rw [beq_eq_false_iff_ne.2 h]
  rfl
theorem split_parts (b : UInt8) : ∀ s : List UInt8, Lib.splitK [b] 0 (Lib.count s [b]) s = parts b s
  | [] => rfl
  | c :: s => by
    by_cases hc : c = b
    · subst hc
      rw [Lib.count_cons_eq, parts, if_pos rfl, Nat.add_comm, Lib.splitK]
      have h0 : Lib.index (c :: s) [c] = 0 := by simp [Lib.index]
      rw [h0, if_neg (by decide), ← split_parts c s]
      simp
    · rw [Lib.count_cons_ne _ _ _ hc, parts, if_neg hc, ← split_parts b s]
      have h1 : ([b].isPrefixOf (c :: s)) = false := pref_ne (Ne.symm hc)
      cases hk : Lib.count s [b] with
      | zero => rfl
      | succ k =>
        obtain ⟨i, hi⟩ := Lib.index_of_count (s := s) (old := [b]) (by omega)
        have h2 : ((i : Int) == -1) = false := by rw [beq_eq_false_iff_ne]; omega
        have h3 : Lib.index (c :: s) [b] = i + 1 := by
          rw [Lib.index, h1, hi, h2]
          simp
        have h4 : ((i : Int) + 1 == -1) = false := by rw [beq_eq_false_iff_ne]; omega
        rw [Lib.splitK, h3, h4, Lib.splitK, hi, h2]
        have e1 : ((i : Int) + 1).toNat = i + 1 := by omega
        simp [e1]
theorem zjn (b : UInt8) : ∀ s : List UInt8, (parts b s).length ≤ s.length + 1
  | [] => by simp [parts]
  | c :: s => by
    have := zjn b s
    unfold parts
    split
    · simp
      omega
    · simp
      omega
theorem zji (b : UInt8) : ∀ (s : List UInt8) (p : List UInt8), p ∈ parts b s → p.length ≤ s.length
  | [], p, h => by simp [parts] at h; simp [h]
  | c :: s, p, h => by
    unfold parts at h
    split at h
    · rcases List.mem_cons.1 h with h | h
      · simp [h]
      · have := zji b s p h
        simp
        omega
    · rcases List.mem_cons.1 h with h | h
      · have := zji b s ((parts b s).headD []) (by rw [parts_cons b s]; simp)
        simp [h]
        simpa using this
      · have := zji b s p (by rw [parts_cons b s]; simp [h])
        simp
        omega
end Go.Proofs.YtcjbjpobpefehaaGreatDoor
namespace Go.Proofs.YtcjbjpobpefehaaGreatDoor
open Go
theorem digitVal_of {d : Nat} (h : d < 10) : Lib.digitVal (UInt8.ofNat (48 + d)) = some d := by
 have e : (UInt8.ofNat (48 + d)).toNat = 48 + d := by
  rw [UInt8.toNat_ofNat']
  omega
 unfold Lib.digitVal
 rw [e, if_pos (by omega)]
 congr 1
 omega
theorem decFrom_snoc {l : List UInt8} {acc n : Nat} {b : UInt8} {d : Nat} (h : Lib.decFrom acc l = some n) (hd : Lib.digitVal b = some d) : Lib.decFrom acc (l ++ [b]) = some (n * 10 + d) := by
 have := Lib.decFrom_take (l ++ [b]) l.length acc n b d (by simpa using h) (by simp) hd
 rw [List.take_of_length_le (by simp)] at this
 exact this
theorem dec_val : ∀ u : Nat, Lib.decFrom 0 (Lib.decDigits u) = some u := by
 intro u
 induction u using Nat.strongRecOn with
 | ind u ih =>
  rw [Lib.decDigits]
  split
  ·
   rename_i h
   have k := digitVal_of h
   simp only [Lib.decFrom, k]
   simp
  ·
   rename_i h
   rw [decFrom_snoc (ih (u / 10) (by omega)) (digitVal_of (show u % 10 < 10 by omega))]
   congr 1
   omega
theorem dec_head {u : Nat} {b : UInt8} {r : List UInt8} (h : Lib.decDigits u = b :: r) : ∃ d, Lib.digitVal b = some d :=
 Lib.digit_of_decFrom _ 0 u (dec_val u) 0 b (by rw [h]; rfl)
def tnum (s : List UInt8) : Option Int :=
 match Lib.atoi s with
 | some n => if numB n = true ∧ numL n = s then some n else none
 | none => none
theorem atoi_itoa (n : Int) : Lib.atoi (Lib.itoa n) = some n := by
 unfold Lib.itoa
 split
 ·
  have hv := dec_val n.natAbs
  have hne : Lib.decDigits n.natAbs ≠ [] := by
   rw [Lib.decDigits]
   split <;> simp
  simp only [Lib.atoi, Lib.decNat]
  rw [if_pos (by decide), if_neg (by simpa using hne), hv]
  simp only [Option.map_some]
  congr 1
  omega
 ·
  have hv := dec_val n.toNat
  cases hd : Lib.decDigits n.toNat with
  | nil =>
   exfalso
   rw [Lib.decDigits] at hd
   split at hd <;> simp at hd
  | cons b r =>
   obtain ⟨d, h⟩ := dec_head hd
   rw [hd] at hv
   have h1 : ¬ (b == 45) = true := by
    intro k
    have : b = 45 := by simpa using k
    subst this
    simp [Lib.digitVal] at h
   have h2 : ¬ (b == 43) = true := by
    intro k
    have : b = 43 := by simpa using k
    subst this
    simp [Lib.digitVal] at h
   simp only [Lib.atoi, Lib.decNat]
   rw [if_neg h1, if_neg h2, if_neg (by simp), hv]
   simp only [Option.map_some]
   congr 1
   omega
theorem tnum_iff {s : List UInt8} {n : Int} : tnum s = some n ↔ numB n = true ∧ numL n = s := by
 constructor
 ·
  intro h
  unfold tnum at h
  split at h
  ·
   split at h
   ·
    rename_i m hm hk
    have : m = n := by simpa using h
    subst this
    exact hk
   ·
    cases h
  ·
   cases h
 ·
  rintro ⟨h1, rfl⟩
  have e : numL n = Lib.itoa n := numL_in (numB_iff.1 h1)
  unfold tnum
  rw [e, atoi_itoa]
  simp only
  rw [if_pos ⟨h1, e⟩]
theorem tnum_num {n : Int} (h : numB n = true) : tnum (numL n) = some n := tnum_iff.2 ⟨h, rfl⟩
theorem zkd {n m : Int} (hn : numB n = true) (hm : numB m = true) (h : numL n = numL m) : n = m := by
 have a := tnum_num hn
 rw [h, tnum_num hm] at a
 simpa using a.symm
theorem tnum_of {s : List UInt8} {n : Int} (hs : s ≠ []) (h : numL n = s) : tnum s = some n := by
 refine tnum_iff.2 ⟨?_, h⟩
 cases hb : numB n with
 | true => rfl
 | false =>
  exfalso
  refine hs ?_
  rw [← h]
  unfold numL
  rw [hb]
  rfl
theorem num_shape {n : Int} (h : numB n = true) : (0 ≤ n ∧ Lib.decFrom 0 (numL n) = some n.toNat ∧ ∃ b r, numL n = b :: r ∧ b ≠ 45) ∨ (n < 0 ∧ ∃ r, numL n = 45 :: r ∧ Lib.decFrom 0 r = some n.natAbs) := by
 have e : numL n = Lib.itoa n := numL_in (numB_iff.1 h)
 rw [e]
 by_cases h0 : n < 0
 ·
  refine Or.inr ⟨h0, Lib.decDigits n.natAbs, ?_, dec_val _⟩
  unfold Lib.itoa
  rw [if_pos h0]
 ·
  refine Or.inl ⟨by omega, ?_, ?_⟩
  ·
   unfold Lib.itoa
   rw [if_neg h0]
   exact dec_val _
  ·
   unfold Lib.itoa
   rw [if_neg h0]
   cases hd : Lib.decDigits n.toNat with
   | nil =>
    exfalso
    rw [Lib.decDigits] at hd
    split at hd <;> simp at hd
   | cons b r =>
    refine ⟨b, r, rfl, ?_⟩
    rintro rfl
    obtain ⟨d, k⟩ := dec_head hd
    simp [Lib.digitVal] at k
end Go.Proofs.YtcjbjpobpefehaaGreatDoor
namespace Go.Proofs.YtcjbjpobpefehaaGreatDoor
open Go

def numOf (s : List UInt8) : Int := (tnum s).getD 0
def numOk (s : List UInt8) : Bool := (tnum s).isSome
theorem num_some {s : List UInt8} {n : Int} (h : tnum s = some n) : numOf s = n ∧ numOk s = true := by simp [numOf, numOk, h]
theorem num_none {s : List UInt8} (h : tnum s = none) : numOf s = 0 ∧ numOk s = false := by simp [numOf, numOk, h]
theorem zwi {n : Int} (h : numB n = true) : numOf (numL n) = n ∧ numOk (numL n) = true := num_some (tnum_num h)
theorem atoiAll_tnum {s : List UInt8} {n : Int} (h : tnum s = some n) : Lib.atoiAll s = .ok n := by
  obtain ⟨h1, h2⟩ := tnum_iff.1 h
  have hl : s.length ≤ 17 := by rw [← h2]; exact numL_len n
  rw [Lib.atoiAll_short s (by omega), ← h2, numL_in (numB_iff.1 h1), atoi_itoa]
  rfl
theorem num_hit {s : List UInt8} {v : Int} (h : Lib.atoiAll s = .ok v) (e : numL v = s) : numOf s = v ∧ numOk s = true := by
  refine num_some (tnum_of ?_ e)
  rintro rfl
  cases h
theorem num_miss {s : List UInt8} {v : Int} (h : Lib.atoiAll s = .ok v) (e : numL v ≠ s) : numOf s = 0 ∧ numOk s = false := by
  refine num_none ?_
  cases k : tnum s with
  | none => rfl
  | some n =>
    have h1 := atoiAll_tnum k
    rw [h] at h1
    injection h1 with h1
    subst h1
    exact absurd (tnum_iff.1 k).2 e
theorem num_bad {s : List UInt8} (h : ∀ v, Lib.atoiAll s ≠ .ok v) : numOf s = 0 ∧ numOk s = false := by
  refine num_none ?_
  cases k : tnum s with
  | none => rfl
  | some n => exact absurd (atoiAll_tnum k) (h n)
end Go.Proofs.YtcjbjpobpefehaaGreatDoor
