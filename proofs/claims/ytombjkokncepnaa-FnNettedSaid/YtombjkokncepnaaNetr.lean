/- Netting preserves what every peer is owed, with fewer debts than peers, and saves: plain, no program in sight. -/
import Derived.Test.YtombjkokncepnaaRows
import Derived.Test.YtombjkokncepnaaNetp
namespace Go.Proofs.Ytombjkokncepnaa
open Go.RowKit

def applyD (net : List Int) (d : Debt) : List Int := (net.set d.To.toNat (at_ net d.To.toNat + d.Amt)).set d.From.toNat (at_ (net.set d.To.toNat (at_ net d.To.toNat + d.Amt)) d.From.toNat - d.Amt)
theorem len_applyD (net : List Int) (d : Debt) : (applyD net d).length = net.length := by simp [applyD]
theorem NInv.all_zero {o : List Int} (h : NInv o) (hz : at_ o (mostN (-1) o 100) = 0) (i : Nat) : at_ o i = 0 := by
  obtain ⟨_, m2, _⟩ := mostN_facts (-1) o 99
  have e : (99 + 1 : Nat) = 100 := rfl
  rw [e, hz] at m2
  have hnn : ∀ j, 0 ≤ at_ o j := fun j => by
    by_cases hj : j ≤ 99
    · have := m2 j hj; omega
    · rw [at_ge (by rw [h.len]; omega)]; omega
  have key : ∀ (o : List Int), (∀ j, 0 ≤ at_ o j) → 0 ≤ o.sum ∧ (o.sum = 0 → ∀ j, at_ o j = 0) := by
    intro o
    induction o with
    | nil => intro _; exact ⟨by simp, fun _ j => by simp [at_]⟩
    | cons x o ih =>
      intro h
      obtain ⟨h1, h2⟩ := ih (fun j => by simpa [at_] using h (j + 1))
      have h0 : 0 ≤ x := by simpa [at_] using h 0
      refine ⟨by simp; omega, fun hs j => ?_⟩
      simp only [List.sum_cons] at hs
      cases j with
      | zero => simp [at_]; omega
      | succ j => simpa [at_] using h2 (by omega) j
  exact (key o hnn).2 h.sum i
theorem applied : ∀ (n : Nat) (o net : List Int), NInv o → nz o ≤ n → net.length = 100 → ∀ p, p < 100 → at_ ((netGo n o).foldl applyD net) p = at_ net p + at_ o p
  | 0, o, net, h, hn, _, p, _ => by
    have : at_ o p = 0 := Classical.byContradiction fun hc => by have := nz_pos hc; omega
    simp [netGo, this]
  | n + 1, o, net, h, hn, hl, p, hp => by
    by_cases hz : at_ o (mostN (-1) o 100) = 0
    · rw [netGo_end hz, h.all_zero hz p]; simp
    · obtain ⟨h1, h2⟩ := netGo_go (n := n + 1) h hz hn
      obtain ⟨s1, s2⟩ := h.signs hz
      rw [h1, List.foldl_cons, Nat.add_sub_cancel]
      have hf : mostN (-1) o 100 < 100 := most_lt _ _
      have ht : mostN 1 o 100 < 100 := most_lt _ _
      have hst := h.step hz
      obtain ⟨f, ef⟩ : ∃ f, mostN (-1) o 100 = f := ⟨_, rfl⟩
      obtain ⟨t, et⟩ : ∃ t, mostN 1 o 100 = t := ⟨_, rfl⟩
      rw [ef] at s1 hf h2 hst ⊢
      rw [et] at s2 ht h2 hst ⊢
      have hne : f ≠ t := fun e => by rw [e] at s1; omega
      rw [applied n _ _ hst (by omega) (by rw [len_applyD]; exact hl) p hp, at_move (by rw [h.len]; exact hf) (by rw [h.len]; exact ht) hne]
      unfold applyD
      simp only [Int.toNat_natCast]
      by_cases hpf : p = f
      · subst hpf
        rw [at_set_self (by simp; omega), at_set_ne (Ne.symm hne), if_neg hne, if_pos rfl]
        omega
      · rw [at_set_ne (Ne.symm hpf)]
        by_cases hpt : p = t
        · subst hpt
          rw [at_set_self (by omega), if_pos rfl]
          omega
        · rw [at_set_ne (Ne.symm hpt), if_neg hpt, if_neg hpf]
theorem nz_two {o : List Int} {f t : Nat} (hne : f ≠ t) (hf : at_ o f ≠ 0) (ht : at_ o t ≠ 0) : 2 ≤ nz o := by
  have hfl : f < o.length := Nat.lt_of_not_le fun hh => hf (at_ge hh)
  have h1 := nz_set hfl 0
  have h2 : at_ (o.set f 0) t ≠ 0 := by rw [at_set_ne hne]; exact ht
  have h3 := nz_pos h2
  have e1 : one01 (at_ o f) = 1 := if_neg hf
  have e2 : one01 0 = 0 := if_pos rfl
  omega
theorem netGo_few : ∀ (n : Nat) (o : List Int), NInv o → nz o ≤ n → 0 < nz o → (netGo n o).length + 1 ≤ nz o
  | 0, o, _, hn, hp => by omega
  | n + 1, o, h, hn, hp => by
    by_cases hz : at_ o (mostN (-1) o 100) = 0
    · rw [netGo_end hz]; simp; omega
    · obtain ⟨h1, h2⟩ := netGo_go (n := n + 1) h hz hn
      obtain ⟨s1, s2⟩ := h.signs hz
      have hst := h.step hz
      rw [h1, Nat.add_sub_cancel, List.length_cons]
      by_cases h0 : nz (shiftB o (mostN (-1) o 100) (mostN 1 o 100)) = 0
      · have hz2 : at_ (shiftB o (mostN (-1) o 100) (mostN 1 o 100)) (mostN (-1) (shiftB o (mostN (-1) o 100) (mostN 1 o 100)) 100) = 0 := Classical.byContradiction fun hc => by have := nz_pos hc; omega
        rw [netGo_end hz2]
        have := nz_two (o := o) (f := mostN (-1) o 100) (t := mostN 1 o 100) (fun e => by rw [e] at s1; omega) (by omega) (by omega)
        simp
        omega
      · have := netGo_few n _ hst (by omega) (by omega)
        omega
theorem nz_peers {l : List Debt} (h : debtsOk l = true) : nz (bal0 l) ≤ (peersL l).length := by
  have h0 := (inv0 h).zero
  rw [at_bal0 l (by omega)] at h0
  unfold nz bal0 peersL peersF
  rw [List.countP_map, ← List.countP_eq_length_filter, show allP 99 = (List.range 99).map fun i : Nat => (i : Int) + 1 from rfl, List.countP_map, List.range_succ_eq_map, List.countP_cons, List.countP_map]
  have e0 : ((fun x => x != 0) ∘ fun p : Nat => owedL l p) 0 = false := by simpa using h0
  rw [if_neg (by rw [e0]; decide), Nat.add_zero]
  refine List.countP_mono_left fun i _ hi => ?_
  simp only [Function.comp] at hi ⊢
  cases hc : hasP l ((i : Int) + 1)
  · have := owedL_zero l _ hc
    rw [show ((Nat.succ i : Nat) : Int) = (i : Int) + 1 from rfl, this] at hi
    simp at hi
  · rfl
def pos (o : List Int) : Int := (o.map fun x => max x 0).sum
theorem pos_nn : ∀ o : List Int, 0 ≤ pos o
  | [] => by simp [pos]
  | x :: o => by
    have := pos_nn o
    simp only [pos, List.map_cons, List.sum_cons] at this ⊢
    omega
theorem pos_set {o : List Int} {i : Nat} (h : i < o.length) (v : Int) : pos (o.set i v) = pos o - max (at_ o i) 0 + max v 0 := by
  induction o generalizing i with
  | nil => simp at h
  | cons x o ih =>
    cases i with
    | zero => simp [pos, at_]; omega
    | succ i =>
      have h2 := ih (i := i) (by simpa using h)
      simp only [pos, List.set_cons_succ, List.map_cons, List.sum_cons, at_, List.getD_cons_succ] at h2 ⊢
      omega
theorem dsum_cons (d : Debt) (l : List Debt) : dsum (d :: l) = d.Amt + dsum l := by
  have key : ∀ (l : List Debt) (a b : Int), l.foldl (fun n d => n + d.Amt) (a + b) = a + l.foldl (fun n d => n + d.Amt) b := by
    intro l
    induction l with
    | nil => intro a b; rfl
    | cons x l ih => intro a b; simp only [List.foldl_cons]; rw [Int.add_assoc, ih]
  have := key l d.Amt 0
  simp only [dsum, List.foldl_cons]
  rw [Int.zero_add, ← this, Int.add_zero]
theorem dsum_net : ∀ (n : Nat) (o : List Int), NInv o → nz o ≤ n → dsum (netGo n o) ≤ pos o
  | 0, o, _, _ => by rw [netGo]; exact pos_nn o
  | n + 1, o, h, hn => by
    by_cases hz : at_ o (mostN (-1) o 100) = 0
    · rw [netGo_end hz]; exact pos_nn o
    · obtain ⟨h1, h2⟩ := netGo_go (n := n + 1) h hz hn
      obtain ⟨s1, s2⟩ := h.signs hz
      have hst := h.step hz
      rw [h1, Nat.add_sub_cancel, dsum_cons]
      have ih := dsum_net n _ hst (by omega)
      have hf : mostN (-1) o 100 < o.length := by rw [h.len]; exact most_lt _ _
      have ht : mostN 1 o 100 < o.length := by rw [h.len]; exact most_lt _ _
      have hne : mostN (-1) o 100 ≠ mostN 1 o 100 := fun e => by rw [e] at s1; omega
      have hp : pos (shiftB o (mostN (-1) o 100) (mostN 1 o 100)) = pos o - min (-at_ o (mostN (-1) o 100)) (at_ o (mostN 1 o 100)) := by
        unfold shiftB
        rw [pos_set (by simpa using ht), pos_set hf, at_set_ne hne]
        omega
      simp only
      omega
theorem pos_bal : ∀ (l : List Debt), (∀ d ∈ l, debtOk d = true) → pos (bal0 l) ≤ dsum l
  | [], _ => by
    have := sum_one 0 0 100
    have e : pos (bal0 []) = 0 := by simpa [pos, bal0, owedL, Function.comp_def] using this
    rw [e]; exact Int.le_refl _
  | d :: l, h => by
    have ih := pos_bal l (fun x hx => h x (by simp [hx]))
    have hd := debtOk_iff.1 (h d (by simp))
    rw [dsum_cons]
    have s1 := sum_one d.Amt d.To 100
    rw [if_pos (by omega)] at s1
    have key : ∀ (l' : List Nat), (l'.map fun p : Nat => max (owedL (d :: l) p) 0).sum ≤ (l'.map fun p : Nat => max (owedL l p) 0).sum + (l'.map fun p : Nat => if d.To = (p : Int) then d.Amt else 0).sum := by
      intro l'
      induction l' with
      | nil => simp
      | cons x l' ih2 =>
        simp only [List.map_cons, List.sum_cons]
        have e := owedL_cons d l x
        have : max (owedL (d :: l) x) 0 ≤ max (owedL l x) 0 + (if d.To = (x : Int) then d.Amt else 0) := by
          rw [e]
          split <;> split <;> omega
        omega
    have k2 := key (List.range 100)
    rw [s1] at k2
    simp only [pos, bal0, List.map_map, Function.comp_def] at ih k2 ⊢
    omega
theorem rings_nn {l : List Debt} (h : debtsOk l = true) : 0 ≤ ringsR l := by
  have hall : ∀ d ∈ l, debtOk d = true := by simp only [debtsOk, Bool.and_eq_true, List.all_eq_true] at h; exact h.1
  have h1 := pos_bal l hall
  have hi := inv0 h
  have h2 := dsum_net 100 (bal0 l) hi (by have := nz_le (bal0 l); rw [hi.len] at this; exact this)
  rw [ringsR, if_pos h, netR, if_pos h]
  omega
def zeros100 : List Int := List.replicate 100 0
theorem netted {l : List Debt} (h : debtsOk l = true) {p : Nat} (hp : p < 100) : at_ ((netR l).foldl applyD zeros100) p = owedL l p := by
  have hi := inv0 h
  have := applied 100 (bal0 l) zeros100 hi (by have := nz_le (bal0 l); rw [hi.len] at this; exact this) (by simp [zeros100]) p hp
  rw [netR, if_pos h, this, at_bal0 l hp]
  have : at_ zeros100 p = 0 := by
    unfold at_ zeros100
    rw [List.getD_eq_getElem?_getD, List.getElem?_replicate, if_pos hp]
    rfl
  omega
theorem fewer {l : List Debt} (h : debtsOk l = true) : (peersL l).length = 0 ∨ (netR l).length < (peersL l).length := by
  by_cases h0 : (peersL l).length = 0
  · exact .inl h0
  · refine .inr ?_
    have hi := inv0 h
    have hn := nz_peers h
    rw [netR, if_pos h]
    by_cases hz : nz (bal0 l) = 0
    · have hz2 : at_ (bal0 l) (mostN (-1) (bal0 l) 100) = 0 := Classical.byContradiction fun hc => by have := nz_pos hc; omega
      rw [netGo_end hz2]
      simp only [List.length_nil]
      omega
    · have := netGo_few 100 (bal0 l) hi (by have := nz_le (bal0 l); rw [hi.len] at this; exact this) (by omega)
      omega
end Go.Proofs.Ytombjkokncepnaa
