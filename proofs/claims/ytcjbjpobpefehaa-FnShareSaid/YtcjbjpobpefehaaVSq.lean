/- A region that draws its order, walked in ONE order that is written out ahead: what yields under S is taken as it comes, an operation that does something must be the only one that may come up. Plain ground, no program in sight. -/
import Derived.Test.YtcjbjpobpefehaaVM1
namespace Go.Proofs.Ytcjbjpobpefehaa
abbrev Stp := Nat × Option Nat × Bool × Option (Nat × Bool)
def guardOk (ops : Array Oper) (o : Oper) (g : Option (Nat × Bool)) : Bool :=
 match o.guard, g with
 | none, none => true
 | some (j, b), some (s, c) => b == c && (match ops[j]? with | some x => x.dst == some s | none => false)
 | _, _ => false
def wantedAt (g : Option (Nat × Bool)) (a : Act) : Bool :=
 match g with
 | none => true
 | some (s, b) => match a.tmps.toList[s]? with | some (.bool x) => x == b | _ => false
theorem wanted_of {ops : Array Oper} {o : Oper} {g : Option (Nat × Bool)} (h : guardOk ops o g = true) (a : Act) : Region.wanted o (yielded ops a.tmps) = wantedAt g a := by
 unfold guardOk at h
 unfold Region.wanted wantedAt
 split at h
 ·
  rename_i hg
  rw [hg]
 ·
  rename_i j b s c hg
  rw [hg]
  simp only [Bool.and_eq_true, beq_iff_eq] at h
  obtain ⟨rfl, h⟩ := h
  split at h
  ·
   rename_i x hx
   simp only [beq_iff_eq] at h
   simp only [yielded, hx, Option.bind_some, h, Array.getElem?_toList]
   split <;> rename_i hv <;> simp [hv]
  ·
   cases h
 ·
  cases h
section
variable {P : Program} {md : Region.Mode} {ops : Array Oper} {Q : Exit → Act → World → Prop} {S : World → Prop}
def orderOk (md : Region.Mode) (ops : Array Oper) : List Stp → Array Bool → Bool
 | [], _ => true
 | (i, d, e, g) :: is, l => (match ops[i]? with | some o => o.dst == d && guardOk ops o g | none => false) && (if e then Region.ready md ops l == [i] else Region.free md ops l i && (Region.ready md ops l).contains i) && orderOk md ops is (l.setIfInBounds i true)
def listAll : List Stp → Array Bool → Array Bool
 | [], l => l
 | (i, _) :: is, l => listAll is (l.setIfInBounds i true)
def Sq (P : Program) (ops : Array Oper) (Q : Exit → Act → World → Prop) (S : World → Prop) (F : Act → World → Prop) : List Stp → Act → World → Prop
 | [], a, w => F a w
 | (i, d, e, g) :: is, a, w => ∃ o, ops[i]? = some o ∧ ((∃ v, ((wantedAt g a = true ∧ ∀ w, S w → (execOp a.eval o).run P w = .ok (.value v) w) ∨ (wantedAt g a = false ∧ v = undef)) ∧ Sq P ops Q S F is (a.put d v) w) ∨
   (e = true ∧ wantedAt g a = true ∧ ∀ K' : Act → World → Prop, Shut (∀ a w, S w → (S w → Sq P ops Q S F is a w) → K' a w) → Oper.wp P o a w K' Q))
variable {F : Act → World → Prop}
theorem Sq.take {i : Nat} {d : Option Nat} {g : Option (Nat × Bool)} {o : Oper} {v : Value} {is : List Stp} {a : Act} {w : World} (ho : ops[i]? = some o) (hw : wantedAt g a = true) (hy : ∀ w, S w → (execOp a.eval o).run P w = .ok (.value v) w) {a' : Act} (ha : a.put d v = a')
  (h : Sq P ops Q S F is a' w) : Sq P ops Q S F ((i, d, false, g) :: is) a w := ⟨o, ho, .inl ⟨v, .inl ⟨hw, hy⟩, ha ▸ h⟩⟩
theorem Sq.skip {i : Nat} {d : Option Nat} {e : Bool} {g : Nat × Bool} {o : Oper} {is : List Stp} {a : Act} {w : World} (ho : ops[i]? = some o) (hw : wantedAt (some g) a = false) {a' : Act} (ha : a.put d undef = a')
  (h : Sq P ops Q S F is a' w) : Sq P ops Q S F ((i, d, e, some g) :: is) a w := ⟨o, ho, .inl ⟨undef, .inr ⟨hw, rfl⟩, ha ▸ h⟩⟩
theorem Sq.step {i : Nat} {d : Option Nat} {g : Option (Nat × Bool)} {o : Oper} {is : List Stp} {a : Act} {w : World} (ho : ops[i]? = some o) (hw : wantedAt g a = true) (h : ∀ K' : Act → World → Prop, Shut (∀ a w, S w → (S w → Sq P ops Q S F is a w) → K' a w) → Oper.wp P o a w K' Q) :
  Sq P ops Q S F ((i, d, true, g) :: is) a w := ⟨o, ho, .inr ⟨rfl, hw, h⟩⟩
theorem Sq.done {a : Act} {w : World} (h : F a w) : Sq P ops Q S F [] a w := h
theorem sq_head {i : Nat} {d : Option Nat} {g : Option (Nat × Bool)} {is : List Stp} {fuel : Nat} {listed : Array Bool} {a : Act} {w : World} {o : Oper} (ho : ops[i]? = some o) (hd : o.dst = d) (hg : guardOk ops o g = true)
  (next : ∀ a w, S w → Sq P ops Q S F is a w → wpAnyH P md ops Q S fuel (listed.setIfInBounds i true) a w) {e : Bool} (hS : S w) (h : Sq P ops Q S F ((i, d, e, g) :: is) a w) :
  ∀ K' : Act → World → Prop, Shut (∀ a w, S w → (S w → wpAnyH P md ops Q S fuel (listed.setIfInBounds i true) a w) → K' a w) → if Region.wanted o (yielded ops a.tmps) = true then Oper.wp P o a w K' Q else K' (a.put o.dst undef) w := by
 intro K hK
 subst hd
 obtain ⟨o', ho', h⟩ := h
 rw [ho] at ho'
 cases ho'
 have hwa := wanted_of hg a
 rcases h with ⟨v, hy, h⟩ | ⟨rfl, hw, h⟩
 ·
  rw [← hwa] at hy
  have hk := hK.out (a.put o.dst v) w hS (fun hS => next _ w hS h)
  rcases hy with ⟨hw, hy⟩ | ⟨hw, rfl⟩
  ·
   rw [if_pos hw]
   simp only [Oper.wp, hy w hS, Oper.upon]
   exact hk
  ·
   rw [if_neg (by rw [hw]; decide)]
   exact hk
 ·
  rw [if_pos (hwa.trans hw)]
  exact h K (fun a w hS hq => hK.out a w hS (fun hS => next a w hS (hq hS)))
theorem zvi (hs : Region.noSelect ops = true) (hQ : ∀ c a d v w, Q (.panic c) (a.put d v) w → Q (.panic c) a w) : ∀ (is : List Stp) (fuel : Nat) (listed : Array Bool) (a : Act) (w : World), is.length ≤ fuel → orderOk md ops is listed = true → S w → (∀ a w, S w → F a w → wpAnyH P md ops Q S (fuel - is.length) (listAll is listed) a w) →
  Sq P ops Q S F is a w → wpAnyH P md ops Q S fuel listed a w
 | [], fuel, listed, a, w, _, _, hS, hF, h => hF a w hS h
 | (i, d, e, g) :: is, 0, listed, a, w, hl, _, _, _, _ => absurd hl (by simp)
 | (i, d, e, g) :: is, fuel + 1, listed, a, w, hl, hok, hS, hF, h => by
  have hl' : is.length ≤ fuel := by simpa using hl
  have hF' : ∀ a w, S w → F a w → wpAnyH P md ops Q S (fuel - is.length) (listAll is (listed.setIfInBounds i true)) a w := by
   intro a w hS hf
   have := hF a w hS hf
   simpa [listAll, Nat.succ_sub_succ] using this
  have h0 := h
  obtain ⟨o, ho, h⟩ := h
  simp only [orderOk, ho, Bool.and_eq_true, beq_iff_eq] at hok
  obtain ⟨⟨⟨hd, hg⟩, hok1⟩, hok2⟩ := hok
  have next : ∀ a w, S w → Sq P ops Q S F is a w → wpAnyH P md ops Q S fuel (listed.setIfInBounds i true) a w := fun a w hS hq => zvi hs hQ is fuel _ a w hl' hok2 hS hF' hq
  cases e with
  | true =>
   simp only [if_true, beq_iff_eq] at hok1
   exact wpAnyH_ready hok1 (by simp) (AllReadyH.cons ho (sq_head ho hd hg next hS h0) AllReadyH.nil)
  | false =>
   subst hd
   simp only [Bool.false_eq_true, if_false, Bool.and_eq_true] at hok1
   have hwa := wanted_of hg a
   rcases h with ⟨v, hy, h⟩ | ⟨hc, _⟩
   ·
    rw [← hwa] at hy
    exact wpAnyH_take ho hs hok1.1 hok1.2 (fun c a w => hQ c a _ v w) hy hS (next _ w hS h)
   ·
    cases hc
theorem NoPanic.hQ {Q : Exit → Act → World → Prop} : ∀ c (a : Act) d v w, NoPanic Q (.panic c) (a.put d v) w → NoPanic Q (.panic c) a w := fun _ _ _ _ _ h => h.elim
def orderAll (md : Region.Mode) (ops : Array Oper) (is : List Stp) : Bool := decide (is.length ≤ ops.size) && orderOk md ops is (Array.replicate ops.size false) && (Region.ready md ops (listAll is (Array.replicate ops.size false))).isEmpty
theorem zxj (S : World → Prop) (is : List Stp) {id : Nat} {a : Act} {w : World} (hm : P.follows .mixedOrders = true) (hs : Region.noSelect ops = true) (hok : orderAll .any ops is = true) (hS : S w.drew)
  (h : S w.drew → Sq P ops (NoPanic Q) S (NoPanic Q .normal) is a w.drew) : (Code.region id ops true).wp P Q a w := by
 simp only [orderAll, Bool.and_eq_true, decide_eq_true_eq, List.isEmpty_iff] at hok
 exact wp_region_noPanic (wp_region_held_drew hm hS fun hS => zvi hs NoPanic.hQ is _ _ _ _ hok.1.1 hok.1.2 hS (fun a w _ hf => wpAnyH_done hok.2 hf _) (h hS))
theorem zkc (S : World → Prop) (is : List Stp) {o : Oper} {l : List Oper} {id : Nat} {a : Act} {w : World} (ho : l.getLast? = some o) (hm : P.follows .mixedOrders = true) (hg : noGuards l.dropLast.toArray = true) (hw : waitsAll2 .any l.dropLast.toArray o = true) (hb : backOnly .any l.dropLast.toArray = true)
  (hs : Region.noSelect l.dropLast.toArray = true) (hok : orderAll .any l.dropLast.toArray is = true)
  (hS : S w.drew) (h : S w.drew → Sq P l.dropLast.toArray (lastQ P l.toArray o (NoPanic Q)) S (lastQ P l.toArray o (NoPanic Q) .normal) is a w.drew) : (Code.region id l.toArray true).wp P Q a w := by
 simp only [orderAll, Bool.and_eq_true, decide_eq_true_eq, List.isEmpty_iff] at hok
 exact wp_region_noPanic (wp_region_lastL2 ho hm hg hw hb hS fun hS => zvi hs (fun _ _ _ _ _ h => h) is _ _ _ _ hok.1.1 hok.1.2 hS (fun a w _ hf => wpAnyH_done hok.2 hf _) (h hS))
/-! ### two operations may come up: two orders behind a common beginning -/
def headOk (ops : Array Oper) : List Stp → Option Nat
 | (i, d, e, g) :: _ => match ops[i]? with | some o => if o.dst == d && guardOk ops o g && e then some i else none | none => none
 | [] => none
def orderTwo (md : Region.Mode) (ops : Array Oper) (pre o1 o2 : List Stp) : Bool :=
 decide (pre.length + o1.length ≤ ops.size) && decide (pre.length + o2.length ≤ ops.size) && orderOk md ops pre (Array.replicate ops.size false) &&
 (match headOk ops o1, headOk ops o2 with
  | some i, some j => Region.ready md ops (listAll pre (Array.replicate ops.size false)) == [i, j] &&
   orderOk md ops o1.tail ((listAll pre (Array.replicate ops.size false)).setIfInBounds i true) && (Region.ready md ops (listAll o1.tail ((listAll pre (Array.replicate ops.size false)).setIfInBounds i true))).isEmpty &&
   orderOk md ops o2.tail ((listAll pre (Array.replicate ops.size false)).setIfInBounds j true) && (Region.ready md ops (listAll o2.tail ((listAll pre (Array.replicate ops.size false)).setIfInBounds j true))).isEmpty
  | _, _ => false)
theorem headOk_some {l : List Stp} {i : Nat} (h : headOk ops l = some i) : ∃ d g is o, l = (i, d, true, g) :: is ∧ ops[i]? = some o ∧ o.dst = d ∧ guardOk ops o g = true := by
 unfold headOk at h
 split at h
 ·
  rename_i i' d e g is
  split at h
  ·
   rename_i o ho
   split at h
   ·
    rename_i hc
    simp only [Bool.and_eq_true, beq_iff_eq] at hc
    obtain ⟨⟨hd, hg⟩, rfl⟩ := hc
    cases h
    exact ⟨d, g, is, o, rfl, ho, hd, hg⟩
   ·
    cases h
  ·
   cases h
 ·
  cases h
theorem wp_region_sq2 (S : World → Prop) (pre o1 o2 : List Stp) {id : Nat} {a : Act} {w : World} (hm : P.follows .mixedOrders = true) (hs : Region.noSelect ops = true) (hok : orderTwo .any ops pre o1 o2 = true) (hS : S w.drew)
  (h : S w.drew → Sq P ops (NoPanic Q) S (fun a w => Sq P ops (NoPanic Q) S (NoPanic Q .normal) o1 a w ∧ Sq P ops (NoPanic Q) S (NoPanic Q .normal) o2 a w) pre a w.drew) : (Code.region id ops true).wp P Q a w := by
 simp only [orderTwo, Bool.and_eq_true, decide_eq_true_eq] at hok
 obtain ⟨⟨⟨hl1, hl2⟩, hpre⟩, hok⟩ := hok
 refine wp_region_noPanic (wp_region_held_drew hm hS fun hS => zvi hs NoPanic.hQ pre _ _ _ _ (by omega) hpre hS (fun a w hS hf => ?_) (h hS))
 split at hok
 ·
  rename_i i j h1 h2
  simp only [Bool.and_eq_true, beq_iff_eq, List.isEmpty_iff] at hok
  obtain ⟨⟨⟨⟨hr, ok1⟩, e1⟩, ok2⟩, e2⟩ := hok
  obtain ⟨d1, g1, t1, p1, rfl, ho1, hd1, hg1⟩ := headOk_some h1
  obtain ⟨d2, g2, t2, p2, rfl, ho2, hd2, hg2⟩ := headOk_some h2
  simp only [List.length_cons, List.tail_cons] at hl1 hl2 ok1 ok2 e1 e2
  obtain ⟨n, hn⟩ : ∃ n, ops.size - pre.length = n + 1 := ⟨ops.size - pre.length - 1, by omega⟩
  rw [hn]
  refine wpAnyH_ready hr (by simp) (AllReadyH.cons ho1 ?_ (AllReadyH.cons ho2 ?_ AllReadyH.nil))
  ·
   exact sq_head ho1 hd1 hg1 (fun a w hS hq => zvi hs NoPanic.hQ t1 n _ a w (by omega) ok1 hS (fun a w _ hf => wpAnyH_done e1 hf _) hq) hS hf.1
  ·
   exact sq_head ho2 hd2 hg2 (fun a w hS hq => zvi hs NoPanic.hQ t2 n _ a w (by omega) ok2 hS (fun a w _ hf => wpAnyH_done e2 hf _) hq) hS hf.2
 ·
  cases hok
end
theorem of_step {ops : Array Oper} {o : Oper} {a : Act} {X E : Prop} (hg : o.guard = none) (h : if Region.wanted o (yielded ops a.tmps) = true then X else E) : X := by
 rwa [if_pos (by simp [Region.wanted, hg])] at h
theorem zwa {K : Act → World → Prop} {a : Act} {w : World} (h : ∀ wq, wq = w → K a wq) : K a w := h w rfl
theorem meet {α : Type} {F G : α → World → Prop} {X : Prop} (h1 : (∀ x w, F x w → G x w) → X) (h2 : ∀ x w, F x w → G x w) : X := h1 h2
theorem name_then {K : Act → World → Prop} {Q : Exit → Act → World → Prop} {e : Exit} {a : Act} {w : World} (h : ∀ wq, wq = w → Exit.then K Q e a wq) : Exit.then K Q e a w := h w rfl
theorem zwg {P : Program} {f : Nat} {vs : Array Value} {Q : Ending → World → Prop} {w : World} (h : ∀ wq, wq = w → Calls P f vs wq Q) : Calls P f vs w Q := h w rfl
theorem nw_ {P : Program} {c : Go.Code} {Q : Exit → Act → World → Prop} {a : Act} {w : World} (h : ∀ wq, wq = w → Go.Code.wp P c Q a wq) : Go.Code.wp P c Q a w := h w rfl
theorem nl_ {P : Program} {ops : Array Oper} {Q : Exit → Act → World → Prop} {l : List Oper} {a : Act} {w : World} (h : ∀ wq, wq = w → wpList P ops Q l a wq) : wpList P ops Q l a w := h w rfl
theorem nb_ {n : Nat} {Q : Exit → Act → World → Prop} {e : Exit} {a : Act} {w : World} (h : ∀ wq, wq = w → Exit.inBlock n Q e a wq) : Exit.inBlock n Q e a w := h w rfl
theorem nr_ {P : Program} {f : Func} {Q : Ending → World → Prop} {e : Exit} {a : Act} {w : World} (h : ∀ wq, wq = w → bodyPost P f Q e a wq) : bodyPost P f Q e a w := h w rfl
theorem nm_ {p q : Prop} (h : q) (f : q → p := by intro hq; first | exact zwg hq | exact nw_ hq | exact name_then hq | exact nr_ hq | exact nl_ hq | exact nb_ hq) : p := f h
theorem tk_ {p q : Prop} (h : q) (f : q → p := by
  intro hq
  (repeat (first
   | (refine Sq.take (v := ?_) (a' := ?_) rfl (by rfl) ?_ ?_ ?_; rotate_left; (focus (intro w hSw; (try dsimp only at hSw); go_simp; (try with_reducible rfl); done)); rotate_left; (focus (simp only [Act.put, List.setIfInBounds_toArray, List.set_cons_succ, List.set_cons_zero]; rfl)))
   | (refine Sq.skip (a' := ?_) rfl (by rfl) ?_ ?_; rotate_left; (focus (simp only [Act.put, List.setIfInBounds_toArray, List.set_cons_succ, List.set_cons_zero]; rfl)))))
  exact hq) : p := f h
end Go.Proofs.Ytcjbjpobpefehaa
