/- Base · DRow · NumL · Parts · Amt · Base2 · Last · Steady · Str · TNum · App · Debt · Fr · Last2 · Line · NumT · Accs · App2 · DebtF · Linesi · Liness · Led · TxtL · TxtP · TxtR: each text proves what its theorems say, with no conditions but theirs. -/
import Derived.WalkKit
import Derived.WalkSpells
import Derived.WalkLawsBesides
import Derived.ProofKit
import Derived.Below
import Derived.Carry
import Derived.Laws.OwnMore
import Derived.Laws.MakeOwn
import Derived.Deep.AppendLies
import Derived.Deep.Draws
import Derived.Deep.Slices
import Derived.Lib.Hide
import Derived.Lib.SmallJoins
import Derived.Test.YtcjbjpobpefehaaGreatDoorRows
import Derived.LaidMore
import Derived.OpenShut
import Derived.Lay
import Derived.Handed
import Derived.Stop.Joined
import Derived.Stop.LaidErr
import Derived.Lib.LaidTab
import Derived.Shelf.Vars
import Derived.ChangeMaps5
import Derived.Lib.ItoaNum
import Derived.Laws.Concat
import Derived.Lib.Replace
import Derived.Lib.Join
import Derived.Laws.AppendOwnNone
import Derived.Deep.RegionHeld3
import Derived.Still
import Derived.StillTail
import Derived.Laws.IdiomStrings
import Derived.Lib.AtoiTie
import Derived.StillTailTactics
import Derived.IntWalk
namespace Go.Proofs.YtcjbjpobpefehaaGreatDoor
open Go.ChangeShapes Go.WideShapes Go.ChangeAt Go.RowKit Go.Deep

/-! ### The row's last step -/
section
variable {H : Type} {enc : TypeId × Value → H} {P : Program}
theorem trodAll_below {W W' : World} (hl : laidOutB P = true) (hb : Below W.heap.size W W') : ∀ (ts : List TypeId) (vs : List Value) (ds : List (DataW H)) (ps : List MemPlace),
    (ts.all fun t => P.readableRec t && decide (t < P.types.size)) = true → DataW.TrodAll enc P W 0 (fun _ => true) true ts vs ds ps → (∀ x ∈ ps, x.block < W.heap.size) →
    DataW.TrodAll enc P W' 0 (fun b => decide (b < W.heap.size)) true ts vs ds ps
  | [], [], [], _, _, h, _ => h
  | t :: ts, v :: vs, d :: ds, ps, hr, h, hlt => by
    obtain ⟨p, q, h1, h2, rfl⟩ := h
    simp only [List.all_cons, Bool.and_eq_true, decide_eq_true_eq] at hr
    exact ⟨p, q, Below.trod hl hr.1.1 hr.1.2 h1 hb (fun x hx => hlt x (by simp [hx])), trodAll_below hl hb ts vs ds q hr.2 h2 (fun x hx => hlt x (by simp [hx])), rfl⟩
  | [], [], _ :: _, _, _, h, _ => h.elim
  | [], _ :: _, _, _, _, h, _ => h.elim
  | _ :: _, [], _, _, _, h, _ => h.elim
  | _ :: _, _ :: _, [], _, _, h, _ => h.elim

/-- The call returned true, and below the old heap's size nothing has turned: that is all that a law's row asks. -/
theorem law_post {f : Func} {s : ChangeSpec} {W W' : World} {args : Array Value} {ds gs : List (DataW H)} {before : List MemPlace} {tb : TypeId}
    (hl : laidOutB P = true) (hr : (f.params.toList.all fun t => P.readableRec t && decide (t < P.types.size)) = true) (hrt : f.resultTypes = #[tb]) (hub : P.underlying tb = some .bool)
    (hsv : s.vars = []) (hsf : ∀ ds' : List (DataW H), ds'.length = f.params.toList.length → s.fn H ds' = { results := [.lit (.bool true)], args := ds' })
    (hW : DataW.Whole enc P f.params.toList s.vars false W args.toList ds gs before) (hb : Below W.heap.size W W') :
    s.post enc P f false true false false W args (.bool true) W' := by
  have hlt := fun p hp => hW.lt p hp
  obtain ⟨p, q, hA, hV, rfl, hfz, hnd⟩ := hW
  rw [hsv] at hV
  obtain ⟨rfl, rfl⟩ := trodVars_none hV
  have hlen : ∀ (ts : List TypeId) (vs : List Value) (xs : List (DataW H)) (ps : List MemPlace), DataW.TrodAll enc P W 0 (fun _ => true) true ts vs xs ps → xs.length = ts.length := by
    intro ts
    induction ts with
    | nil => intro vs xs ps h; cases vs <;> cases xs <;> first | rfl | exact h.elim
    | cons t ts ih =>
      intro vs xs ps h
      cases vs with
      | nil => exact h.elim
      | cons v vs =>
        cases xs with
        | nil => exact h.elim
        | cons x xs =>
          obtain ⟨_, _, _, h2, _⟩ := h
          simp [ih vs xs _ h2]
  have hs := hsf (ds ++ []) (by simpa using hlen _ _ _ _ hA)
  refine ⟨ds, [], p ++ [], [], p, [], ⟨p, [], hA, by rw [hsv]; exact hV, rfl, hfz, hnd⟩, ?_, ?_, ?_, World.keptBut_mono (fun x hx => ⟨hx, Or.inr (Or.inl (by simpa using hx))⟩) (hb.frame (· ∈ p ++ [])), fun h => by cases h⟩
  · rw [hs, hrt]
    exact trodAll_mk1 (shut_bool hub _)
  · rw [hs]
    simp only [List.append_nil]
    exact trodAll_below hl hb _ _ _ _ hr hA (fun x hx => hlt x (by simpa using hx))
  · rw [hs, hsv]
    rfl
end

/-! ### Flat types: integers, bools, structs of such. 'kinds': one letter a cell: true: an int; false: a bool -/
def kinds (P : Program) : Nat → TypeId → Option (List Bool)
  | 0, _ => none
  | n + 1, t =>
    match P.underlying t with
    | some (.int .i64) => some [true]
    | some .bool => some [false]
    | some (.struct fs) => (fs.toList.foldl (fun (acc : Option (List Bool)) f => acc.bind fun got => (kinds P n f.type).bind fun ks => if f.offset = got.length ∧ P.cellsOf f.type = ks.length then some (got ++ ks) else none) (some [])).bind fun all =>
        if P.cellsOf t = all.length then some all else none
    | _ => none

def flat : List Bool → List Value → Prop
  | [], [] => True
  | true :: ks, v :: vs => (∃ z : Int, v = .int .i64 z ∧ (Lit.int .i64 z).wf = true) ∧ flat ks vs
  | false :: ks, v :: vs => (∃ b : Bool, v = .bool b) ∧ flat ks vs
  | _, _ => False

theorem flat_append : ∀ {a : List Bool} {x : List Value} {b : List Bool} {y : List Value}, flat a x → flat b y → flat (a ++ b) (x ++ y)
  | [], [], _, _, _, h => h
  | true :: _, _ :: _, _, _, h, k => ⟨h.1, flat_append h.2 k⟩
  | false :: _, _ :: _, _, _, h, k => ⟨h.1, flat_append h.2 k⟩
  | [], _ :: _, _, _, h, _ => h.elim
  | true :: _, [], _, _, h, _ => h.elim
  | false :: _, [], _, _, h, _ => h.elim
theorem flat_length : ∀ {a : List Bool} {x : List Value}, flat a x → x.length = a.length
  | [], [], _ => rfl
  | true :: _, _ :: _, h => by simp [flat_length h.2]
  | false :: _, _ :: _, h => by simp [flat_length h.2]
  | [], _ :: _, h => h.elim
  | true :: _, [], h => h.elim
  | false :: _, [], h => h.elim

section
variable {H : Type} {enc : TypeId × Value → H} {P : Program} {w : World} {base : Nat} {spare : Nat → Bool} {held : Bool}
theorem flat_of_trod : ∀ (n : Nat) {t : TypeId} {ks : List Bool} {fuel : Nat} {cs : List Value} {x : DataW H × List MemPlace}, kinds P n t = some ks → DataW.trod enc P w base spare held fuel t cs = some x → flat ks cs ∧ x.2 = []
  | 0, _, _, _, _, _, hk, _ => by simp [kinds] at hk
  | n + 1, t, ks, fuel, cs, x, hk, h => by
    unfold kinds at hk
    split at hk
    · rename_i hu
      obtain ⟨z, rfl, rfl, hw⟩ := DataW.trod_int hu h
      cases hk
      exact ⟨⟨⟨z, rfl, hw⟩, trivial⟩, rfl⟩
    · rename_i hu
      obtain ⟨b, rfl, rfl⟩ := DataW.trod_bool hu h
      cases hk
      exact ⟨⟨⟨b, rfl⟩, trivial⟩, rfl⟩
    · rename_i fs hu
      obtain ⟨ys, m, rfl, rfl, hlen, hyl, hf⟩ := DataW.trod_struct hu h
      simp only [Option.bind_eq_some_iff] at hk
      obtain ⟨all, hfold, hk⟩ := hk
      have hcells : P.cellsOf t = all.length := by
        by_cases hh : P.cellsOf t = all.length
        · exact hh
        · rw [if_neg hh] at hk
          cases hk
      rw [if_pos hcells] at hk
      cases hk
      have key : ∀ (l : List Field) (i : Nat) (got all' : List Bool), (∀ (j : Nat) (f : Field), l[j]? = some f → fs[i + j]? = some f) →
          l.foldl (fun (acc : Option (List Bool)) f => acc.bind fun got => (kinds P n f.type).bind fun ks => if f.offset = got.length ∧ P.cellsOf f.type = ks.length then some (got ++ ks) else none) (some got) = some all' →
          flat got (cs.take got.length) → flat all' (cs.take all'.length) ∧ ∀ j, j < l.length → ∃ y, ys[i + j]? = some y ∧ y.2 = [] := by
        intro l
        induction l with
        | nil =>
          intro i got all' _ he hg
          simp only [List.foldl_nil, Option.some.injEq] at he
          subst he
          exact ⟨hg, fun j hj => absurd hj (Nat.not_lt_zero _)⟩
        | cons f l ih =>
          intro i got all' hfs he hg
          simp only [List.foldl_cons, Option.bind_some] at he
          have hnone : ∀ (l : List Field), l.foldl (fun (acc : Option (List Bool)) f => acc.bind fun got => (kinds P n f.type).bind fun ks => if f.offset = got.length ∧ P.cellsOf f.type = ks.length then some (got ++ ks) else none) none = none := by
            intro l
            induction l with
            | nil => rfl
            | cons a l ih => simpa using ih
          cases hkf : kinds P n f.type with
          | none => rw [hkf] at he; simp only [Option.bind_none] at he; rw [hnone] at he; cases he
          | some kf =>
            rw [hkf] at he
            simp only [Option.bind_some] at he
            by_cases hc : f.offset = got.length ∧ P.cellsOf f.type = kf.length
            · rw [if_pos hc] at he
              have h0 := hf i f (by simpa using hfs 0 f rfl)
              have hys : i < ys.length := by
                rw [hyl]
                have := hfs 0 f rfl
                simp only [Nat.add_zero] at this
                exact (Array.getElem?_eq_some_iff.1 this).1
              rw [List.getElem?_eq_getElem hys] at h0
              obtain ⟨hfl, hpl⟩ := flat_of_trod n hkf h0
              rw [hc.1, hc.2] at hfl
              have hg2 : flat (got ++ kf) (cs.take (got ++ kf).length) := by
                rw [List.length_append, List.take_add]
                exact flat_append hg hfl
              obtain ⟨r1, r2⟩ := ih (i + 1) (got ++ kf) all' (fun j f' hj => by have := hfs (j + 1) f' (by simpa using hj); rwa [show i + (j + 1) = i + 1 + j by omega] at this) he hg2
              refine ⟨r1, fun j hj => ?_⟩
              cases j with
              | zero => exact ⟨_, List.getElem?_eq_getElem hys, hpl⟩
              | succ j =>
                obtain ⟨y, hy, hy2⟩ := r2 j (by simpa using hj)
                exact ⟨y, by rwa [show i + 1 + j = i + (j + 1) by omega] at hy, hy2⟩
            · rw [if_neg hc] at he
              rw [hnone] at he
              cases he
      obtain ⟨r1, r2⟩ := key fs.toList 0 [] ks (fun j f hj => by simpa using hj) hfold (by simp [flat])
      rw [List.take_of_length_le (by omega)] at r1
      refine ⟨r1, ?_⟩
      show ys.flatMap (·.2) = []
      rw [List.flatMap_eq_nil_iff]
      intro y hy
      obtain ⟨j, hj, rfl⟩ := List.mem_iff_getElem.1 hy
      obtain ⟨y', hy', h2⟩ := r2 j (by simpa [hyl] using hj)
      rw [Nat.zero_add, List.getElem?_eq_getElem hj] at hy'
      cases hy'
      exact h2
    · cases hk
end

/-! ### Slices whose elements are rows of cells -/
/-- At A lie the rows (each of 'size' cells), below block B. -/
def Rd (w : World) (B size : Nat) (A : Option Addr) (rows : List (List Value)) : Prop :=
  (∀ r ∈ rows, r.length = size) ∧ (0 < rows.length → ∃ b off, A = some ⟨b, off, none⟩ ∧ b < B ∧ ∀ i r j v, rows[i]? = some r → r[j]? = some v → w.cell? ⟨b, off + i * size + j, none⟩ = some v)

section
variable {w w' : World} {B B' size : Nat} {A : Option Addr} {rows : List (List Value)}
theorem Rd.keep (h : Rd w B size A rows) (hk : ∀ p : Addr, p.block < B → w'.cell? p = w.cell? p) : Rd w' B size A rows :=
  ⟨h.1, fun hn => by
    obtain ⟨b, off, e, hb, hc⟩ := h.2 hn
    exact ⟨b, off, e, hb, fun i r j v h1 h2 => (hk _ hb).trans (hc i r j v h1 h2)⟩⟩
theorem Rd.more (h : Rd w B size A rows) (hB : B ≤ B') : Rd w B' size A rows :=
  ⟨h.1, fun hn => by
    obtain ⟨b, off, e, hb, hc⟩ := h.2 hn
    exact ⟨b, off, e, by omega, hc⟩⟩
theorem Rd.below (h : Rd w B size A rows) (hb : Below B w w') : Rd w' B size A rows := h.keep fun _ hp => hb.cell hp
theorem Rd.nil_ : Rd w B size A [] := ⟨by simp, fun h => absurd h (by simp)⟩
end

/-- A slice of flat structs that came in. -/
theorem rd_of_trod {H : Type} {enc : TypeId × Value → H} {P : Program} {w : World} {base : Nat} {spare : Nat → Bool} {held : Bool} {t e : TypeId} {n fuel : Nat} {ks : List Bool} {A : Option Addr} {len cap : Nat} {x : DataW H × List MemPlace}
    (hu : P.underlying t = some (.slice e)) (hk : kinds P n e = some ks) (hc : P.cellsOf e = ks.length) (h0 : 0 < ks.length) (h : DataW.trod enc P w base spare held fuel t [.slice A len cap] = some x) :
    ∃ rows : List (List Value), rows.length = len ∧ (∀ r ∈ rows, flat ks r) ∧ Rd w w.heap.size ks.length A rows ∧ len ≤ cap ∧ cap ≤ maxLen := by
  rcases open_slice hu h with ⟨hcs, _⟩ | ⟨a, len', cap', m, m', D, Pl, hcs, _, hl, hm, hmm, _, hi⟩
  · simp only [List.cons.injEq, Value.slice.injEq, and_true] at hcs
    obtain ⟨rfl, rfl, rfl⟩ := hcs
    exact ⟨[], rfl, by simp, Rd.nil_, Nat.le_refl _, Nat.zero_le _⟩
  · simp only [List.cons.injEq, Value.slice.injEq, and_true] at hcs
    obtain ⟨rfl, rfl, rfl⟩ := hcs
    have hlm : len ≤ m := by rw [hmm]; split <;> omega
    obtain ⟨R, hR⟩ := choose_lt (n := len) (p := fun i (r : List Value) => flat ks r ∧ ∀ j, j < ks.length → w.cell? (a.add (i * ks.length + j)) = r[j]?) (fun i hil => by
      obtain ⟨cs', h1, h2⟩ := hi i (by omega)
      rw [hc] at h1
      obtain ⟨_, hl', hcell⟩ := World.cells?_some h1
      refine ⟨cs', (flat_of_trod n hk h2).1, fun j hj => ?_⟩
      rw [← hcell j hj, add_add])
    refine ⟨(List.range len).map R, by simp, ?_, ⟨?_, fun hn => ?_⟩, hl, hm⟩
    · intro r hr
      obtain ⟨i, hi', rfl⟩ := List.mem_map.1 hr
      exact (hR i (List.mem_range.1 hi')).1
    · intro r hr
      obtain ⟨i, hi', rfl⟩ := List.mem_map.1 hr
      exact flat_length (hR i (List.mem_range.1 hi')).1
    · simp only [List.length_map, List.length_range] at hn
      obtain ⟨hfl, hcell⟩ := hR 0 hn
      obtain ⟨b, off, spot⟩ := a
      have hl0 := flat_length hfl
      have hcl := hcell 0 h0
      rw [List.getElem?_eq_getElem (by omega)] at hcl
      have hspot : spot = none := by simpa [Addr.add] using World.cell?_spot hcl
      subst hspot
      have hadd : ∀ k, (⟨b, off, none⟩ : Addr).add k = ⟨b, off + k, none⟩ := by intro k; unfold Addr.add; split <;> simp_all
      refine ⟨b, off, rfl, ?_, ?_⟩
      · rw [hadd] at hcl
        by_cases hb : b < w.heap.size
        · exact hb
        · simp [World.cell?, Array.getElem?_eq_none (show w.heap.size ≤ b by omega)] at hcl
      · intro i r j v hr hv
        have hil : i < len := by
          have := (List.getElem?_eq_some_iff.1 hr).1
          simpa using this
        have hr' : R i = r := by simpa [hil] using hr
        obtain ⟨hfi, hci⟩ := hR i hil
        have hj : j < ks.length := by
          have := (List.getElem?_eq_some_iff.1 hv).1
          rw [← hr', flat_length hfi] at this
          exact this
        have := hci j hj
        rw [hadd, hr', hv] at this
        rw [← this, Nat.add_assoc]

theorem rd_of_trod' {H : Type} {enc : TypeId × Value → H} {P : Program} {w : World} {base : Nat} {spare : Nat → Bool} {held : Bool} {t e : TypeId} {n fuel : Nat} {ks : List Bool} {c : Value} {x : DataW H × List MemPlace}
    (hu : P.underlying t = some (.slice e)) (hk : kinds P n e = some ks) (hc : P.cellsOf e = ks.length) (h0 : 0 < ks.length) (h : DataW.trod enc P w base spare held fuel t [c] = some x) :
    ∃ (A : Option Addr) (len cap : Nat) (rows : List (List Value)), c = .slice A len cap ∧ rows.length = len ∧ (∀ r ∈ rows, flat ks r) ∧ Rd w w.heap.size ks.length A rows ∧ len ≤ cap ∧ cap ≤ maxLen := by
  have hform : ∃ (A : Option Addr) (len cap : Nat), c = .slice A len cap := by
    rcases DataW.trod_slice hu h with ⟨hcs, _⟩ | ⟨a, len, cap, _, _, _, _, hcs, _⟩
    · exact ⟨none, 0, 0, by simpa using hcs⟩
    · exact ⟨some a, len, cap, by simpa using hcs⟩
  obtain ⟨A, len, cap, rfl⟩ := hform
  obtain ⟨rows, r⟩ := rd_of_trod hu hk hc h0 h
  exact ⟨A, len, cap, rows, rfl, r⟩

/-- Rows that are each something's cells are something's cells all together. -/
theorem rows_of {α : Type} (enc : α → List Value) (p : α → Prop) : ∀ rows : List (List Value), (∀ r ∈ rows, ∃ a, r = enc a ∧ p a) → ∃ l : List α, rows = l.map enc ∧ ∀ a ∈ l, p a
  | [], _ => ⟨[], rfl, by simp⟩
  | r :: rows, h => by
    obtain ⟨a, ha, hp⟩ := h r (by simp)
    obtain ⟨l, hl, hq⟩ := rows_of enc p rows (fun r' hr' => h r' (by simp [hr']))
    exact ⟨a :: l, by simp [ha, hl], by simpa using ⟨hp, hq⟩⟩

/-- A flat struct by value. -/
theorem agg_of_trod {H : Type} {enc : TypeId × Value → H} {P : Program} {w : World} {base : Nat} {spare : Nat → Bool} {held : Bool} {r : Reach} {b0 n : Nat} {t : TypeId} {fs : Array Field} {ks : List Bool} {v : Value} {d : DataW H} {p : List MemPlace}
    (hs : P.underlying t = some (.struct fs)) (hk : kinds P n t = some ks) (hv : Value.okWide P w r b0 t v) (h : DataW.Trod enc P w base spare held t v d p) : ∃ cs : List Value, v = .agg cs.toArray ∧ flat ks cs := by
  obtain ⟨cs, rfl, _⟩ := okWide_struct hs hv
  obtain ⟨fuel, hf⟩ := h
  exact ⟨cs.toList, by simp, (flat_of_trod n hk (by simpa [Value.cells] using hf)).1⟩
theorem flat_ints : ∀ (k : Nat) {cs : List Value}, flat (List.replicate k true) cs → ∃ zs : List Int, zs.length = k ∧ cs = zs.map (Value.int .i64) ∧ ∀ z ∈ zs, (Lit.int .i64 z).wf = true
  | 0, [], _ => ⟨[], rfl, rfl, by simp⟩
  | 0, _ :: _, h => h.elim
  | k + 1, [], h => h.elim
  | k + 1, c :: cs, h => by
    obtain ⟨⟨z, rfl, hz⟩, h2⟩ := h
    obtain ⟨zs, hl, rfl, hw⟩ := flat_ints k h2
    exact ⟨z :: zs, by simp [hl], rfl, by simpa using ⟨hz, hw⟩⟩
theorem flat_i {ks : List Bool} {cs : List Value} (h : flat (true :: ks) cs) : ∃ z cs', cs = .int .i64 z :: cs' ∧ flat ks cs' := by
  cases cs with
  | nil => exact h.elim
  | cons c cs => obtain ⟨⟨z, rfl, _⟩, h2⟩ := h; exact ⟨z, cs, rfl, h2⟩
theorem flat_b {ks : List Bool} {cs : List Value} (h : flat (false :: ks) cs) : ∃ z cs', cs = .bool z :: cs' ∧ flat ks cs' := by
  cases cs with
  | nil => exact h.elim
  | cons c cs => obtain ⟨⟨z, rfl⟩, h2⟩ := h; exact ⟨z, cs, rfl, h2⟩
theorem flat_nil {cs : List Value} (h : flat [] cs) : cs = [] := by
  cases cs with
  | nil => rfl
  | cons c cs => exact h.elim
theorem flat_2 {cs : List Value} (h : flat [true, true] cs) : ∃ a b, cs = [.int .i64 a, .int .i64 b] := by
  obtain ⟨zs, hl, rfl, _⟩ := flat_ints 2 h
  match zs, hl with | [a, b], _ => exact ⟨a, b, rfl⟩
theorem flat_3 {cs : List Value} (h : flat [true, true, true] cs) : ∃ a b c, cs = [.int .i64 a, .int .i64 b, .int .i64 c] := by
  obtain ⟨zs, hl, rfl, _⟩ := flat_ints 3 h
  match zs, hl with | [a, b, c], _ => exact ⟨a, b, c, rfl⟩
theorem flat_4 {cs : List Value} (h : flat [true, true, true, true] cs) : ∃ a b c d, cs = [.int .i64 a, .int .i64 b, .int .i64 c, .int .i64 d] := by
  obtain ⟨zs, hl, rfl, _⟩ := flat_ints 4 h
  match zs, hl with | [a, b, c, d], _ => exact ⟨a, b, c, d, rfl⟩

/-! ### Small words -/
theorem ret_bool {a b : Bool} (h : a = b) : Ending.returned (.bool a) = .returned (.bool b) := by rw [h]
theorem ret_int {k : IntKind} {a b : Int} (h : a = b) : Ending.returned (.int k a) = .returned (.int k b) := by rw [h]
theorem below_drewN {B : Nat} {a w : World} (h : Below B a w) (n : Nat) : Below B a (w.drewN n) := ⟨h.os, h.tape, h.output, h.size, h.block⟩
theorem blk_cell {w : World} {g : Nat} {t : TypeId} {cs : Array Value} (h : w.heap[g]? = some (.cells cs t (0, 0))) (i : Nat) : w.cell? ⟨g, i, none⟩ = cs[i]? := cell_of_row w g i cs t (0, 0) h
theorem blk_frozen {w : World} {g : Nat} {t : TypeId} {cs : Array Value} (h : w.heap[g]? = some (.cells cs t (0, 0))) (i : Nat) : w.frozen? ⟨g, i, none⟩ = false := by
  simp [World.frozen?, h]
theorem heap_alloc (w : World) (o : Obj) (n : Nat) : (w.alloc o).heap[n]? = if n = w.heap.size then some o else w.heap[n]? := by
  show (w.heap.push o)[n]? = _
  rw [Array.getElem?_push]
theorem heap_at {w : World} {o : Obj} {n : Nat} (h : n = w.heap.size) : (w.alloc o).heap[n]? = some o := by rw [heap_alloc, if_pos h]
theorem heap_past {w : World} {o : Obj} {n : Nat} {x : Obj} (h : n < w.heap.size) (k : w.heap[n]? = some x) : (w.alloc o).heap[n]? = some x := by rw [heap_alloc, if_neg (by omega)]; exact k
theorem heap_far {w : World} {a : Addr} {u : Value} {n : Nat} {x : Obj} (h : n ≠ a.block) (k : w.heap[n]? = some x) : (w.setCell a u).heap[n]? = some x := (Below.heap_setCell w a u n h).trans k
theorem heap_set {w : World} {g i : Nat} {u : Value} {t : TypeId} {cs : Array Value} (k : w.heap[g]? = some (.cells cs t (0, 0))) : (w.setCell ⟨g, i, none⟩ u).heap[g]? = some (.cells (cs.setIfInBounds i u) t (0, 0)) := by
  simp [World.setCell, Array.getElem?_modify, k]
theorem heap_drew {w : World} {n : Nat} {x : Obj} (k : w.heap[n]? = some x) : w.drew.heap[n]? = some x := k
theorem heap_drewN {w : World} {n m : Nat} {x : Obj} (k : w.heap[n]? = some x) : (w.drewN m).heap[n]? = some x := k
theorem heap_below {W w : World} {B n : Nat} {x : Obj} (hb : Below B W w) (h : n < B) (k : W.heap[n]? = some x) : w.heap[n]? = some x := (hb.block n h).trans k
section
variable {W w1 : World} {g : Nat} {t : TypeId} {a b c d e f h : Value}
theorem own1 (hb : Below W.heap.size W w1) (hg : g < W.heap.size) (hk : W.heap[g]? = some (.cells #[a] t (0, 0))) :
    w1.heap[g]? = some (.cells #[a] t (0, 0)) ∧ w1.cell? ⟨g, 0, none⟩ = some a ∧ (∀ i, w1.frozen? ⟨g, i, none⟩ = false) ∧ g < w1.heap.size := by
  have k := (hb.block g hg).trans hk
  exact ⟨k, blk_cell k 0, blk_frozen k, Nat.lt_of_lt_of_le hg hb.size⟩
theorem own2 (hb : Below W.heap.size W w1) (hg : g < W.heap.size) (hk : W.heap[g]? = some (.cells #[a, b] t (0, 0))) :
    w1.heap[g]? = some (.cells #[a, b] t (0, 0)) ∧ w1.cell? ⟨g, 0, none⟩ = some a ∧ w1.cell? ⟨g, 1, none⟩ = some b ∧ (∀ i, w1.frozen? ⟨g, i, none⟩ = false) ∧ g < w1.heap.size := by
  have k := (hb.block g hg).trans hk
  exact ⟨k, blk_cell k 0, blk_cell k 1, blk_frozen k, Nat.lt_of_lt_of_le hg hb.size⟩
theorem own3 (hb : Below W.heap.size W w1) (hg : g < W.heap.size) (hk : W.heap[g]? = some (.cells #[a, b, c] t (0, 0))) :
    w1.heap[g]? = some (.cells #[a, b, c] t (0, 0)) ∧ w1.cell? ⟨g, 0, none⟩ = some a ∧ w1.cell? ⟨g, 1, none⟩ = some b ∧ w1.cell? ⟨g, 2, none⟩ = some c ∧ (∀ i, w1.frozen? ⟨g, i, none⟩ = false) ∧ g < w1.heap.size := by
  have k := (hb.block g hg).trans hk
  exact ⟨k, blk_cell k 0, blk_cell k 1, blk_cell k 2, blk_frozen k, Nat.lt_of_lt_of_le hg hb.size⟩
theorem own4 (hb : Below W.heap.size W w1) (hg : g < W.heap.size) (hk : W.heap[g]? = some (.cells #[a, b, c, d] t (0, 0))) :
    w1.heap[g]? = some (.cells #[a, b, c, d] t (0, 0)) ∧ w1.cell? ⟨g, 0, none⟩ = some a ∧ w1.cell? ⟨g, 1, none⟩ = some b ∧ w1.cell? ⟨g, 2, none⟩ = some c ∧ w1.cell? ⟨g, 3, none⟩ = some d ∧ (∀ i, w1.frozen? ⟨g, i, none⟩ = false) ∧ g < w1.heap.size := by
  have k := (hb.block g hg).trans hk
  exact ⟨k, blk_cell k 0, blk_cell k 1, blk_cell k 2, blk_cell k 3, blk_frozen k, Nat.lt_of_lt_of_le hg hb.size⟩
theorem own5 (hb : Below W.heap.size W w1) (hg : g < W.heap.size) (hk : W.heap[g]? = some (.cells #[a, b, c, d, e] t (0, 0))) :
    w1.heap[g]? = some (.cells #[a, b, c, d, e] t (0, 0)) ∧ w1.cell? ⟨g, 0, none⟩ = some a ∧ w1.cell? ⟨g, 1, none⟩ = some b ∧ w1.cell? ⟨g, 2, none⟩ = some c ∧ w1.cell? ⟨g, 3, none⟩ = some d ∧ w1.cell? ⟨g, 4, none⟩ = some e ∧ (∀ i, w1.frozen? ⟨g, i, none⟩ = false) ∧ g < w1.heap.size := by
  have k := (hb.block g hg).trans hk
  exact ⟨k, blk_cell k 0, blk_cell k 1, blk_cell k 2, blk_cell k 3, blk_cell k 4, blk_frozen k, Nat.lt_of_lt_of_le hg hb.size⟩
theorem own6 (hb : Below W.heap.size W w1) (hg : g < W.heap.size) (hk : W.heap[g]? = some (.cells #[a, b, c, d, e, f] t (0, 0))) :
    w1.heap[g]? = some (.cells #[a, b, c, d, e, f] t (0, 0)) ∧ w1.cell? ⟨g, 0, none⟩ = some a ∧ w1.cell? ⟨g, 1, none⟩ = some b ∧ w1.cell? ⟨g, 2, none⟩ = some c ∧ w1.cell? ⟨g, 3, none⟩ = some d ∧ w1.cell? ⟨g, 4, none⟩ = some e ∧ w1.cell? ⟨g, 5, none⟩ = some f ∧ (∀ i, w1.frozen? ⟨g, i, none⟩ = false) ∧ g < w1.heap.size := by
  have k := (hb.block g hg).trans hk
  exact ⟨k, blk_cell k 0, blk_cell k 1, blk_cell k 2, blk_cell k 3, blk_cell k 4, blk_cell k 5, blk_frozen k, Nat.lt_of_lt_of_le hg hb.size⟩
theorem own7 (hb : Below W.heap.size W w1) (hg : g < W.heap.size) (hk : W.heap[g]? = some (.cells #[a, b, c, d, e, f, h] t (0, 0))) :
    w1.heap[g]? = some (.cells #[a, b, c, d, e, f, h] t (0, 0)) ∧ w1.cell? ⟨g, 0, none⟩ = some a ∧ w1.cell? ⟨g, 1, none⟩ = some b ∧ w1.cell? ⟨g, 2, none⟩ = some c ∧ w1.cell? ⟨g, 3, none⟩ = some d ∧ w1.cell? ⟨g, 4, none⟩ = some e ∧ w1.cell? ⟨g, 5, none⟩ = some f ∧ w1.cell? ⟨g, 6, none⟩ = some h ∧ (∀ i, w1.frozen? ⟨g, i, none⟩ = false) ∧ g < w1.heap.size := by
  have k := (hb.block g hg).trans hk
  exact ⟨k, blk_cell k 0, blk_cell k 1, blk_cell k 2, blk_cell k 3, blk_cell k 4, blk_cell k 5, blk_cell k 6, blk_frozen k, Nat.lt_of_lt_of_le hg hb.size⟩
theorem ownG1 {row : Option Nat} (hb : W.grownBy w1 row) (hne : some g ≠ row) (hk : W.heap[g]? = some (.cells #[a] t (0, 0))) :
    w1.heap[g]? = some (.cells #[a] t (0, 0)) ∧ w1.cell? ⟨g, 0, none⟩ = some a ∧ (∀ i, w1.frozen? ⟨g, i, none⟩ = false) ∧ g < w1.heap.size := by
  have hg := (Array.getElem?_eq_some_iff.1 hk).1
  have k := (hb.block g hg hne).trans hk
  exact ⟨k, blk_cell k 0, blk_frozen k, Nat.lt_of_lt_of_le hg hb.size⟩
theorem ownG2 {row : Option Nat} (hb : W.grownBy w1 row) (hne : some g ≠ row) (hk : W.heap[g]? = some (.cells #[a, b] t (0, 0))) :
    w1.heap[g]? = some (.cells #[a, b] t (0, 0)) ∧ w1.cell? ⟨g, 0, none⟩ = some a ∧ w1.cell? ⟨g, 1, none⟩ = some b ∧ (∀ i, w1.frozen? ⟨g, i, none⟩ = false) ∧ g < w1.heap.size := by
  have hg := (Array.getElem?_eq_some_iff.1 hk).1
  have k := (hb.block g hg hne).trans hk
  exact ⟨k, blk_cell k 0, blk_cell k 1, blk_frozen k, Nat.lt_of_lt_of_le hg hb.size⟩
theorem ownG3 {row : Option Nat} (hb : W.grownBy w1 row) (hne : some g ≠ row) (hk : W.heap[g]? = some (.cells #[a, b, c] t (0, 0))) :
    w1.heap[g]? = some (.cells #[a, b, c] t (0, 0)) ∧ w1.cell? ⟨g, 0, none⟩ = some a ∧ w1.cell? ⟨g, 1, none⟩ = some b ∧ w1.cell? ⟨g, 2, none⟩ = some c ∧ (∀ i, w1.frozen? ⟨g, i, none⟩ = false) ∧ g < w1.heap.size := by
  have hg := (Array.getElem?_eq_some_iff.1 hk).1
  have k := (hb.block g hg hne).trans hk
  exact ⟨k, blk_cell k 0, blk_cell k 1, blk_cell k 2, blk_frozen k, Nat.lt_of_lt_of_le hg hb.size⟩
theorem ownG4 {row : Option Nat} (hb : W.grownBy w1 row) (hne : some g ≠ row) (hk : W.heap[g]? = some (.cells #[a, b, c, d] t (0, 0))) :
    w1.heap[g]? = some (.cells #[a, b, c, d] t (0, 0)) ∧ w1.cell? ⟨g, 0, none⟩ = some a ∧ w1.cell? ⟨g, 1, none⟩ = some b ∧ w1.cell? ⟨g, 2, none⟩ = some c ∧ w1.cell? ⟨g, 3, none⟩ = some d ∧ (∀ i, w1.frozen? ⟨g, i, none⟩ = false) ∧ g < w1.heap.size := by
  have hg := (Array.getElem?_eq_some_iff.1 hk).1
  have k := (hb.block g hg hne).trans hk
  exact ⟨k, blk_cell k 0, blk_cell k 1, blk_cell k 2, blk_cell k 3, blk_frozen k, Nat.lt_of_lt_of_le hg hb.size⟩
theorem ownG5 {row : Option Nat} (hb : W.grownBy w1 row) (hne : some g ≠ row) (hk : W.heap[g]? = some (.cells #[a, b, c, d, e] t (0, 0))) :
    w1.heap[g]? = some (.cells #[a, b, c, d, e] t (0, 0)) ∧ w1.cell? ⟨g, 0, none⟩ = some a ∧ w1.cell? ⟨g, 1, none⟩ = some b ∧ w1.cell? ⟨g, 2, none⟩ = some c ∧ w1.cell? ⟨g, 3, none⟩ = some d ∧ w1.cell? ⟨g, 4, none⟩ = some e ∧ (∀ i, w1.frozen? ⟨g, i, none⟩ = false) ∧ g < w1.heap.size := by
  have hg := (Array.getElem?_eq_some_iff.1 hk).1
  have k := (hb.block g hg hne).trans hk
  exact ⟨k, blk_cell k 0, blk_cell k 1, blk_cell k 2, blk_cell k 3, blk_cell k 4, blk_frozen k, Nat.lt_of_lt_of_le hg hb.size⟩
theorem ownG6 {row : Option Nat} (hb : W.grownBy w1 row) (hne : some g ≠ row) (hk : W.heap[g]? = some (.cells #[a, b, c, d, e, f] t (0, 0))) :
    w1.heap[g]? = some (.cells #[a, b, c, d, e, f] t (0, 0)) ∧ w1.cell? ⟨g, 0, none⟩ = some a ∧ w1.cell? ⟨g, 1, none⟩ = some b ∧ w1.cell? ⟨g, 2, none⟩ = some c ∧ w1.cell? ⟨g, 3, none⟩ = some d ∧ w1.cell? ⟨g, 4, none⟩ = some e ∧ w1.cell? ⟨g, 5, none⟩ = some f ∧ (∀ i, w1.frozen? ⟨g, i, none⟩ = false) ∧ g < w1.heap.size := by
  have hg := (Array.getElem?_eq_some_iff.1 hk).1
  have k := (hb.block g hg hne).trans hk
  exact ⟨k, blk_cell k 0, blk_cell k 1, blk_cell k 2, blk_cell k 3, blk_cell k 4, blk_cell k 5, blk_frozen k, Nat.lt_of_lt_of_le hg hb.size⟩
theorem ownG7 {row : Option Nat} (hb : W.grownBy w1 row) (hne : some g ≠ row) (hk : W.heap[g]? = some (.cells #[a, b, c, d, e, f, h] t (0, 0))) :
    w1.heap[g]? = some (.cells #[a, b, c, d, e, f, h] t (0, 0)) ∧ w1.cell? ⟨g, 0, none⟩ = some a ∧ w1.cell? ⟨g, 1, none⟩ = some b ∧ w1.cell? ⟨g, 2, none⟩ = some c ∧ w1.cell? ⟨g, 3, none⟩ = some d ∧ w1.cell? ⟨g, 4, none⟩ = some e ∧ w1.cell? ⟨g, 5, none⟩ = some f ∧ w1.cell? ⟨g, 6, none⟩ = some h ∧ (∀ i, w1.frozen? ⟨g, i, none⟩ = false) ∧ g < w1.heap.size := by
  have hg := (Array.getElem?_eq_some_iff.1 hk).1
  have k := (hb.block g hg hne).trans hk
  exact ⟨k, blk_cell k 0, blk_cell k 1, blk_cell k 2, blk_cell k 3, blk_cell k 4, blk_cell k 5, blk_cell k 6, blk_frozen k, Nat.lt_of_lt_of_le hg hb.size⟩
end

/-! ### Rows of cells laid flat -/
theorem flatten_get : ∀ (rows : List (List Value)) (size : Nat), (∀ r ∈ rows, r.length = size) → ∀ (i j : Nat) (r : List Value), rows[i]? = some r → j < size → rows.flatten[i * size + j]? = r[j]?
  | [], _, _, _, _, _, h, _ => by simp at h
  | r0 :: rows, size, hu, 0, j, r, h, hj => by
    simp only [List.getElem?_cons_zero, Option.some.injEq] at h
    subst h
    rw [List.flatten_cons, Nat.zero_mul, Nat.zero_add, List.getElem?_append_left (by rw [hu r0 (by simp)]; exact hj)]
  | r0 :: rows, size, hu, i + 1, j, r, h, hj => by
    have h0 := hu r0 (by simp)
    rw [List.flatten_cons, List.getElem?_append_right (by rw [h0, Nat.succ_mul]; omega), h0, show (i + 1) * size + j - size = i * size + j by rw [Nat.succ_mul]; omega]
    exact flatten_get rows size (fun r hr => hu r (by simp [hr])) i j r (by simpa using h) hj
theorem flatten_size : ∀ (rows : List (List Value)) (size : Nat), (∀ r ∈ rows, r.length = size) → rows.flatten.length = rows.length * size
  | [], size, _ => by simp
  | r :: rows, size, hu => by
    rw [List.flatten_cons, List.length_append, flatten_size rows size (fun r hr => hu r (by simp [hr])), hu r (by simp), List.length_cons, Nat.succ_mul]; omega

/-- v is a slice of the call's own (from block B on): its elements are the rows. -/
def Ow (w : World) (B : Nat) (e : TypeId) (size : Nat) (v : Value) (rows : List (List Value)) : Prop := (∀ r ∈ rows, r.length = size) ∧ w.ownsRow B e size v rows.length rows.flatten
section
variable {w w' : World} {B B' size : Nat} {e : TypeId} {v : Value} {rows : List (List Value)}
theorem Ow.nil_ : Ow w B e size (.slice none 0 0) [] := ⟨by simp, World.ownsRow_nil _ _ _ _⟩
theorem Ow.below (h : Ow w B e size v rows) (hb : Below w.heap.size w w') : Ow w' B e size v rows := by
  refine ⟨h.1, h.2.1, ?_⟩
  rcases h.2.2 with hn | ⟨g, cap, cur, rfl, hg, hh, r⟩
  · exact .inl hn
  · exact .inr ⟨g, cap, cur, rfl, hg, (hb.block g (Array.getElem?_eq_some_iff.1 hh).1).trans hh, r⟩
theorem Ow.more (h : Ow w B e size v rows) (hB : B' ≤ B) : Ow w B' e size v rows := by
  refine ⟨h.1, h.2.1, ?_⟩
  rcases h.2.2 with hn | ⟨g, cap, cur, rfl, hg, r⟩
  · exact .inl hn
  · exact .inr ⟨g, cap, cur, rfl, by omega, r⟩
/-- The value written out. -/
theorem Ow.form (h : Ow w B e size v rows) : ∃ A cap, v = .slice A rows.length cap ∧ Rd w w.heap.size size A rows ∧ rows.length ≤ cap ∧ cap ≤ maxLen := by
  rcases h.2.2 with ⟨rfl, h0⟩ | ⟨g, cap, cur, rfl, hg, hh, hn, hm, hs, ht⟩
  · have : rows = [] := List.eq_nil_of_length_eq_zero h0
    subst this
    exact ⟨none, 0, rfl, Rd.nil_, Nat.le_refl _, Nat.zero_le _⟩
  · refine ⟨_, cap, rfl, ⟨h.1, fun _ => ⟨g, 0, rfl, (Array.getElem?_eq_some_iff.1 hh).1, ?_⟩⟩, hn, hm⟩
    intro i r j u hr hu
    have hj : j < size := by
      have := (List.getElem?_eq_some_iff.1 hu).1
      rwa [h.1 r (List.mem_of_getElem? hr)] at this
    have hil := (List.getElem?_eq_some_iff.1 hr).1
    have hf := flatten_get rows size h.1 i j r hr hj
    rw [← ht, List.getElem?_take, if_pos (by
      have : (i + 1) * size ≤ rows.length * size := Nat.mul_le_mul_right _ hil
      rw [Nat.succ_mul] at this
      omega)] at hf
    rw [Nat.zero_add, cell_of_row w g _ cur e (0, 0) hh, ← hu, ← hf]
    simp
end

theorem Ow.rd {w : World} {B size n cap : Nat} {e : TypeId} {A : Option Addr} {rows : List (List Value)} (h : Ow w B e size (.slice A n cap) rows) : Rd w w.heap.size size A rows := by
  obtain ⟨A', cap', hv, hr, _⟩ := h.form
  injection hv with h1
  rw [h1]
  exact hr

theorem Ow.far {w : World} {B size : Nat} {e : TypeId} {v : Value} {rows : List (List Value)} (h : Ow w B e size v rows) {a : Addr} (ha : a.block < B) (u : Value) : Ow (w.setCell a u) B e size v rows := ⟨h.1, ownsRow_setCell_below h.2 ha u⟩
theorem Ow.alloc {w : World} {B size : Nat} {e : TypeId} {v : Value} {rows : List (List Value)} (h : Ow w B e size v rows) (o : Obj) : Ow (w.alloc o) B e size v rows := ⟨h.1, h.2.alloc o⟩
theorem quiet_left {P : Program} {f : FuncId} {args : Array Value} {w : World} {n : Nat} {v : Value}
    (h : Calls P f args (w.drewN n) fun e w' => e = .returned v ∧ w.drewN n = w') : Calls P f args (w.drewN n) fun e w'' => e = .returned v ∧ ∃ m, w'' = w.drewN m :=
  h.mono fun _ _ ⟨he, hw⟩ => ⟨he, n, hw.symm⟩

/-! ### A block that is being filled, cell by cell -/
def Fill (w : World) (g : Nat) (e : TypeId) (N c : Nat) (xs : List Value) : Prop :=
  ∃ cs : Array Value, w.heap[g]? = some (.cells cs e (0, 0)) ∧ cs.size = N ∧ ∀ j, j < c → cs[j]? = xs[j]?
section
variable {w w' : World} {g N c : Nat} {e : TypeId} {xs : List Value}
theorem Fill.start (cs : Array Value) (hN : cs.size = N) : Fill (w.alloc (.cells cs e)) w.heap.size e N 0 xs := ⟨cs, heap_at rfl, hN, fun _ h => absurd h (Nat.not_lt_zero _)⟩
theorem Fill.below {B : Nat} (h : Fill w g e N c xs) (hb : Below B w w') (hg : g < B) : Fill w' g e N c xs := by
  obtain ⟨cs, hh, r⟩ := h
  exact ⟨cs, (hb.block g hg).trans hh, r⟩
theorem Fill.lt (h : Fill w g e N c xs) : g < w.heap.size := by
  obtain ⟨cs, hh, _⟩ := h
  exact (Array.getElem?_eq_some_iff.1 hh).1
theorem Fill.cell (h : Fill w g e N c xs) {j : Nat} (hj : j < N) : ∃ v, w.cell? ⟨g, j, none⟩ = some v := by
  obtain ⟨cs, hh, hs, _⟩ := h
  exact ⟨cs[j], by rw [blk_cell hh, Array.getElem?_eq_getElem]⟩
theorem Fill.frozen (h : Fill w g e N c xs) (j : Nat) : w.frozen? ⟨g, j, none⟩ = false := by
  obtain ⟨cs, hh, _⟩ := h
  exact blk_frozen hh j
theorem Fill.set (h : Fill w g e N c xs) {v : Value} (hv : xs[c]? = some v) (hc : c < N) : Fill (w.setCell ⟨g, c, none⟩ v) g e N (c + 1) xs := by
  obtain ⟨cs, hh, hs, hx⟩ := h
  refine ⟨_, heap_set hh, by simpa using hs, fun j hj => ?_⟩
  by_cases hjc : j = c
  · subst hjc
    rw [Array.getElem?_setIfInBounds_self, if_pos (by omega), hv]
  · rw [Array.getElem?_setIfInBounds_ne (by omega)]
    exact hx j (by omega)
theorem Fill.far (h : Fill w g e N c xs) {p : Addr} (hp : g ≠ p.block) (u : Value) : Fill (w.setCell p u) g e N c xs := by
  obtain ⟨cs, hh, r⟩ := h
  exact ⟨cs, heap_far hp hh, r⟩
theorem Fill.alloc (h : Fill w g e N c xs) (o : Obj) : Fill (w.alloc o) g e N c xs := by
  obtain ⟨cs, hh, r⟩ := h
  exact ⟨cs, heap_past (Array.getElem?_eq_some_iff.1 hh).1 hh, r⟩
theorem Fill.ow {B size : Nat} {rows : List (List Value)} (h : Fill w g e (rows.length * size) (rows.length * size) rows.flatten) (hu : ∀ r ∈ rows, r.length = size) (hB : B ≤ g) (hm : rows.length ≤ maxLen) :
    Ow w B e size (.slice (some ⟨g, 0, none⟩) rows.length rows.length) rows := by
  obtain ⟨cs, hh, hs, hx⟩ := h
  refine ⟨hu, flatten_size rows size hu, .inr ⟨g, rows.length, cs, rfl, hB, hh, Nat.le_refl _, hm, hs, ?_⟩⟩
  apply List.ext_getElem?
  intro j
  rw [List.getElem?_take]
  by_cases hj : j < rows.length * size
  · rw [if_pos hj, ← hx j hj]
    simp
  · rw [if_neg hj, List.getElem?_eq_none (by rw [flatten_size rows size hu]; omega)]
end

/-! ### Only the block of one slice has turned -/
theorem Ow.block {w : World} {B size : Nat} {e : TypeId} {v : Value} {rows : List (List Value)} (h : Ow w B e size v rows) : ∀ k, v.ownBlock = some k → B ≤ k ∧ k < w.heap.size := h.2.lt
theorem Ow.ne_ {w : World} {B size k : Nat} {e t : TypeId} {v : Value} {rows : List (List Value)} {cs : Array Value} (h : Ow w B e size v rows) (hk : w.heap[k]? = some (.cells cs t (0, 0))) (hne : e ≠ t) : some k ≠ v.ownBlock := by
  rcases h.2.2 with ⟨rfl, _⟩ | ⟨g, cap, cur, rfl, _, hh, _⟩
  · simp [Value.ownBlock]
  · intro he
    have : k = g := by simpa [Value.ownBlock] using he
    subst this
    rw [hk] at hh
    injection hh with hh
    injection hh with _ ht
    exact hne ht.symm
theorem Ow.grown {w w' : World} {B size : Nat} {e : TypeId} {v : Value} {rows : List (List Value)} {row : Option Nat} (h : Ow w B e size v rows) (hg : w.grownBy w' row) (hne : v.ownBlock = none ∨ v.ownBlock ≠ row) : Ow w' B e size v rows := ⟨h.1, h.2.kept hg hne⟩
theorem heap_grown {w w' : World} {row : Option Nat} {n : Nat} {x : Obj} (hg : w.grownBy w' row) (hne : some n ≠ row) (k : w.heap[n]? = some x) : w'.heap[n]? = some x :=
  (hg.block n (Array.getElem?_eq_some_iff.1 k).1 hne).trans k
theorem grown_of_below {w w' : World} {row : Option Nat} (h : Below w.heap.size w w') : w.grownBy w' row := ⟨h.os, h.tape, h.output, h.size, fun k hk _ => h.block k hk⟩
theorem grown_trans {a b c : World} {row : Option Nat} (h : a.grownBy b row) (k : b.grownBy c row) : a.grownBy c row :=
  ⟨k.os.trans h.os, k.tape.trans h.tape, k.output.trans h.output, Nat.le_trans h.size k.size, fun i hi hne => (k.block i (Nat.lt_of_lt_of_le hi h.size) hne).trans (h.block i hi hne)⟩
theorem grown_set {a w : World} {g : Nat} (h : a.grownBy w (some g)) (i : Nat) (u : Value) : a.grownBy (w.setCell ⟨g, i, none⟩ u) (some g) :=
  ⟨h.os, h.tape, h.output, by simpa [World.setCell] using h.size, fun k hk hne => (Below.heap_setCell w ⟨g, i, none⟩ u k (fun e => hne (by rw [e]))).trans (h.block k hk hne)⟩
/-- The slice at A holds N ints, k and on. -/
def Marked (w : World) (A : Option Addr) (N : Nat) (k : Int) : Prop := 0 < N → ∃ g, A = some ⟨g, 0, none⟩ ∧ g < w.heap.size ∧ ∀ j : Nat, j < N → w.cell? ⟨g, j, none⟩ = some (.int .i64 (k + j))
theorem Marked.below {w w' : World} {A : Option Addr} {N : Nat} {k : Int} (h : Marked w A N k) (hb : Below w.heap.size w w') : Marked w' A N k := fun h0 => by
  obtain ⟨g, e, hg, hc⟩ := h h0
  exact ⟨g, e, Nat.lt_of_lt_of_le hg hb.size, fun j hj => (hb.cell (p := ⟨g, j, none⟩) hg).trans (hc j hj)⟩
def markRow (k : Int) (N : Nat) : List Value := (List.range N).map fun j : Nat => .int .i64 (k + j)
theorem markRow_get (k : Int) {N j : Nat} (h : j < N) : (markRow k N)[j]? = some (.int .i64 (k + j)) := by simp [markRow, h]
theorem Fill.of_ow {w : World} {B size : Nat} {e : TypeId} {rows : List (List Value)} {g n cap : Nat} {xs : List Value} (h : Ow w B e size (.slice (some ⟨g, 0, none⟩) n cap) rows) : Fill w g e (cap * size) 0 xs := by
  rcases h.2.2 with ⟨hv, _⟩ | ⟨g', cap', cur, hv, _, hh, _, _, hs, _⟩
  · cases hv
  · injection hv with h1 _ h3
    injection h1 with h1
    injection h1 with h1
    subst h1 h3
    exact ⟨cur, hh, hs, fun j hj => absurd hj (Nat.not_lt_zero _)⟩
theorem Fill.marked {w : World} {g N c : Nat} {e : TypeId} {k : Int} (h : Fill w g e N c (markRow k c)) : Marked w (some ⟨g, 0, none⟩) c k := fun _ => by
  obtain ⟨cs, hh, hs, hx⟩ := h
  refine ⟨g, rfl, (Array.getElem?_eq_some_iff.1 hh).1, fun j hj => ?_⟩
  rw [blk_cell hh, hx j hj, markRow_get k hj]
/-- What is known of the slice of an 'Ow', its address opened. -/
theorem Ow.open_ {w : World} {B size : Nat} {e : TypeId} {v : Value} {rows : List (List Value)} (h : Ow w B e size v rows) :
    (rows = [] ∧ v = .slice none 0 0) ∨ ∃ g cap, v = .slice (some ⟨g, 0, none⟩) rows.length cap ∧ B ≤ g ∧ rows.length ≤ cap ∧ g < w.heap.size := by
  rcases h.2.2 with ⟨rfl, h0⟩ | ⟨g, cap, cur, rfl, hb, hh, hn, _⟩
  · exact .inl ⟨List.eq_nil_of_length_eq_zero h0, rfl⟩
  · exact .inr ⟨g, cap, rfl, hb, hn, (Array.getElem?_eq_some_iff.1 hh).1⟩

/-! ### append of one row to a slice of the call's own -/
theorem wpList_app1 {P : Program} {w : World} {ops : Array Oper} {rest : List Oper} {o : Oper} {a : Act} {Q : Exit → Act → World → Prop} (hgd : o.guard = none) (s x : Operand) (t : TypeId)
    (ho : o.op = .call { callee := .builtin .append, args := #[s, x], argTypes := #[t, t] })
    (B : Nat) (e : TypeId) (i : TypeInfo) (z : Value) (size bytes : Nat) (ht : P.underlying t = some (.slice e)) (hi : P.info? e = some i) (hz : i.zero = some z)
    (hsize : i.size = size) (hby : i.bytes = bytes) (hzs : z.cells.size = size) (hsz : 0 < size)
    (v : Value) (rows : List (List Value)) (hs : a.eval s = v) (how : Ow w B e size v rows)
    (g0 c : Nat) (row : List Value) (e' : TypeId) (hx : a.eval x = .slice (some ⟨g0, 0, none⟩) 1 c) (hblk : w.heap[g0]? = some (.cells row.toArray e' (0, 0))) (hrow : row.length = size) (h1 : ∀ u ∈ row, u.oneCell' = true)
    (hlen : rows.length ≤ 4194304) (hbytes : bytes ≤ 4096) (hbase : B ≤ w.heap.size)
    (h : ∀ g cap w', Ow w' B e size (.slice (some ⟨g, 0, none⟩) (rows.length + 1) cap) (rows ++ [row]) → w.grownBy w' v.ownBlock → (v.ownBlock = some g ∨ g = w.heap.size) → g < w'.heap.size →
      wpList P ops Q rest (a.put o.dst (.slice (some ⟨g, 0, none⟩) (rows.length + 1) cap)) w') : wpList P ops Q (o :: rest) a w := by
  refine wpList_append_lies w hgd s x t ho B e i z size bytes ht hi hz hsize hby hzs hsz v rows.length rows.flatten hs how.2 ⟨g0, 0, none⟩ 1 c row hx (by rw [Nat.one_mul]; exact hrow)
    (by have := World.news_of_block hblk; simpa using this) h1 (by omega) (by unfold maxLen; omega) (by
      have : (rows.length + 1) * bytes ≤ 4194305 * 4096 := Nat.mul_le_mul (by omega) hbytes
      omega) hbase w.heap.size rfl ?_
  intro g cap w' hown hgr hat hlt
  refine h g cap w' ⟨?_, ?_⟩ hgr hat hlt
  · intro r hr
    rcases List.mem_append.1 hr with hr | hr
    · exact how.1 r hr
    · rw [List.mem_singleton.1 hr]
      exact hrow
  · have e1 : (rows ++ [row]).length = rows.length + 1 := by simp
    have e2 : (rows ++ [row]).flatten = rows.flatten ++ row := by simp
    rw [e1, e2]
    exact hown

/-! ### make of a slice whose elements are rows -/
theorem run_make_rowN {P : Program} (t e : TypeId) (i : TypeInfo) (z : Value) (ht : P.underlying t = some (.slice e)) (hi : P.info? e = some i) (hz : i.zero = some z)
    (kl kc : IntKind) (n c : Nat) (hnc : n ≤ c) (hbytes : i.bytes * c ≤ 281474976710656) (h63 : c ≤ 9223372036854775807) (w : World) :
    (Instr.makeSlice t (.int kl (n : Int)) (.int kc (c : Int))).run P w = .ok (.slice (some ⟨w.heap.size, 0, none⟩) n c) (w.alloc (.cells (madeCells z.cells (c * i.size)) e)) := by
  have hb : (i.bytes : Int) * (c : Int) ≤ 281474976710656 := by
    have h : ((i.bytes * c : Nat) : Int) ≤ 281474976710656 := by omega
    rwa [Int.natCast_mul] at h
  have hr := run_make (P := P) w t e i z ht hi hz kl kc n c (by omega) (by omega) hb (by omega)
  simp only [Int.toNat_natCast] at hr
  exact hr

#print axioms law_post
#print axioms rd_of_trod
end Go.Proofs.YtcjbjpobpefehaaGreatDoor

namespace Go.Proofs.YtcjbjpobpefehaaGreatDoor
open Go.ChangeShapes Go.WideShapes Go.ChangeAt Go.RowKit

theorem returnsInHanded_laid {H : Type} {enc : TypeId × Value → H} {a : Assume} {C : Checked} {os : Os} {f : FuncId} {fn : Func} {s : ChangeSpec} {conds : List PathCond} {apart fresh handsOn again : Bool} {laid : List (String × DataW Unit)}
    (own : ownKnob C.prog.godebug = none) (started : os.Started) (noInit : C.prog.inits.idxOf? f = none) (hfn : C.prog.funcs[f]? = some fn)
    (witness : ∃ (w : World) (tape : Tape) (i : Input), w.os = os ∧ (w.forCall tape i).Shaped C.prog ∧ i.vars = [] ∧ Input.okWide C.prog (w.forCall tape i) .any w.heap.size f i ∧
      ((s.pre enc C.prog fn conds apart (w.forCall tape i).memory i.args ∧ laidMetH C.prog laid (w.forCall tape i).memory) ∧ sizedMet enc C.prog fn (OpenSpec.ofChange s) apart (w.forCall tape i).memory i.args) ∧ a.holds C.prog (lone (Frame.enter C.prog f i.args .normal) [] (w.forCall tape i)))
    (contract : ∀ (W : World) (base : Nat) (args : Array Value) (ds gs : List (DataW H)) (before : List MemPlace),
      (∀ (j : Nat) t v, fn.params[j]? = some t → args[j]? = some v → Value.okWide C.prog W .any base t v) →
      DataW.Whole enc C.prog fn.params.toList s.vars apart W args.toList ds gs before →
      conds.all (PathCond.test C.prog ⟨fn.params.toList, ds, s.plain.varTypes C.prog, gs⟩) = true →
      laidMetH C.prog laid W → W.ShapedOpen C.prog →
      Calls C.prog f args W fun e W' => ∃ v, e = .returned v ∧ s.post enc C.prog fn apart fresh handsOn again W args v W') :
    ReturnsInHanded a C os f .any (fun w args => (s.pre enc C.prog fn conds apart w args ∧ laidMetH C.prog laid w) ∧ sizedMet enc C.prog fn (OpenSpec.ofChange s) apart w args) (s.post enc C.prog fn apart fresh handsOn again) := by
  refine returnsInHanded_of_calls own started noInit witness ?_
  intro w tape i _ hsh _ hok hpre _
  obtain ⟨_, _, _, fn', hfn', _, _, _, _, hval⟩ := hok
  have e : fn' = fn := Option.some.inj (hfn'.symm.trans hfn)
  subst e
  obtain ⟨⟨⟨ds, gs, before, hw, hc⟩, hx⟩, hz⟩ := hpre
  have hw' := DataW.Whole.of_heap (w' := w.forCall tape i) (by rfl) hw
  refine (contract (w.forCall tape i) w.heap.size i.args ds gs before hval hw' hc (hx.of_heap (by rfl)) hsh).mono fun e W' ⟨v, he, hp⟩ => ?_
  subst he
  exact ChangeSpec.post_blind hp
end Go.Proofs.YtcjbjpobpefehaaGreatDoor

namespace Go.Proofs.YtcjbjpobpefehaaGreatDoor
open Go

def numB (n : Int) : Bool := decide (-1125899906842624 ≤ n) && decide (n ≤ 1125899906842624)
def numL (n : Int) : List UInt8 := if numB n = true then Lib.itoa n else []
theorem numB_iff {n : Int} : numB n = true ↔ -1125899906842624 ≤ n ∧ n ≤ 1125899906842624 := by simp [numB]
theorem decDigits_len : ∀ (k u : Nat), u < 10 ^ (k + 1) → (Lib.decDigits u).length ≤ k + 1
  | 0, u, h => by rw [Lib.decDigits, dif_pos (by omega)]; simp
  | k + 1, u, h => by
    rw [Lib.decDigits]
    split
    · simp
    · have := decDigits_len k (u / 10) (by rw [Nat.div_lt_iff_lt_mul (by decide)]; rw [Nat.pow_succ] at h; exact h)
      rw [List.length_append]
      simp
      omega
theorem numL_len (n : Int) : (numL n).length ≤ 17 := by
  unfold numL
  split
  · rename_i h
    rw [numB_iff] at h
    unfold Lib.itoa
    split
    · have := decDigits_len 15 n.natAbs (by have : n.natAbs ≤ 1125899906842624 := by omega
                                            exact Nat.lt_of_le_of_lt this (by decide))
      simp
      omega
    · have := decDigits_len 15 n.toNat (by have : n.toNat ≤ 1125899906842624 := by omega
                                           exact Nat.lt_of_le_of_lt this (by decide))
      omega
  · simp
theorem numL_out {n : Int} (h : ¬ (-1125899906842624 ≤ n ∧ n ≤ 1125899906842624)) : numL n = [] := by
  unfold numL
  rw [if_neg (fun k => h (numB_iff.1 k))]
theorem numL_in {n : Int} (h : -1125899906842624 ≤ n ∧ n ≤ 1125899906842624) : numL n = Lib.itoa n := by
  unfold numL
  rw [if_pos (numB_iff.2 h)]
theorem numL_neg {n : Int} (h1 : -1125899906842624 ≤ n) (h2 : n < 0) : numL n = 45 :: numL (-n) := by
  rw [numL_in ⟨h1, by omega⟩, numL_in ⟨by omega, by omega⟩]
  unfold Lib.itoa
  rw [if_pos h2, if_neg (by omega)]
  congr 2
  omega
theorem numL_small {n : Int} (h1 : 0 ≤ n) (h2 : n < 10) : numL n = [UInt8.ofNat (48 + n.toNat)] := by
  rw [numL_in ⟨by omega, by omega⟩]
  unfold Lib.itoa
  rw [if_neg (by omega), Lib.decDigits, dif_pos (by omega)]
theorem numL_big {n : Int} (h1 : 10 ≤ n) (h2 : n ≤ 1125899906842624) : numL n = numL (n / 10) ++ [UInt8.ofNat (48 + (n % 10).toNat)] := by
  rw [numL_in ⟨by omega, by omega⟩, numL_in ⟨by omega, by omega⟩]
  unfold Lib.itoa
  rw [if_neg (by omega), if_neg (by omega), Lib.decDigits, dif_neg (by omega)]
  have e1 : (n / 10).toNat = n.toNat / 10 := by omega
  have e2 : (n % 10).toNat = n.toNat % 10 := by omega
  rw [e1, e2]
theorem numL_ne {n : Int} (h : numB n = true) : numL n ≠ [] := by
  unfold numL
  rw [if_pos h]
  unfold Lib.itoa
  split
  · simp
  · rw [Lib.decDigits]
    split <;> simp
end Go.Proofs.YtcjbjpobpefehaaGreatDoor

namespace Go.Proofs.YtcjbjpobpefehaaGreatDoor
open Go

/-- the pieces of a text between the bytes b -/
def parts (b : UInt8) : List UInt8 → List (List UInt8)
  | [] => [[]]
  | c :: s => if c = b then [] :: parts b s else (c :: (parts b s).headD []) :: (parts b s).tail
theorem parts_ne (b : UInt8) (s : List UInt8) : parts b s ≠ [] := by
  cases s with
  | nil => simp [parts]
  | cons c s => unfold parts; split <;> simp
theorem parts_cons (b : UInt8) (s : List UInt8) : parts b s = (parts b s).headD [] :: (parts b s).tail := by
  cases h : parts b s with
  | nil => exact absurd h (parts_ne b s)
  | cons p r => rfl
theorem parts_none {b : UInt8} : ∀ {s : List UInt8}, b ∉ s → parts b s = [s]
  | [], _ => rfl
  | c :: s, h => by
    simp only [List.mem_cons, not_or] at h
    unfold parts
    rw [if_neg (fun e => h.1 e.symm), parts_none h.2]
    rfl
theorem parts_mid {b : UInt8} (s : List UInt8) : ∀ {x : List UInt8}, b ∉ x → parts b (x ++ b :: s) = x :: parts b s
  | [], _ => by
    rw [List.nil_append, parts, if_pos rfl]
  | c :: x, h => by
    simp only [List.mem_cons, not_or] at h
    rw [List.cons_append, parts, if_neg (fun e => h.1 e.symm), parts_mid s h.2]
    rfl
theorem pref_ne {b c : UInt8} {l : List UInt8} (h : b ≠ c) : [b].isPrefixOf (c :: l) = false := by
  unfold List.isPrefixOf
  rw [beq_eq_false_iff_ne.2 h]
  rfl
theorem index_mid {b : UInt8} (s : List UInt8) : ∀ {x : List UInt8}, b ∉ x → Lib.index (x ++ b :: s) [b] = x.length
  | [], _ => by
    rw [List.nil_append, Lib.index]
    simp
  | c :: x, h => by
    simp only [List.mem_cons, not_or] at h
    rw [List.cons_append, Lib.index, index_mid s h.2]
    have h1 : ([b].isPrefixOf (c :: (x ++ b :: s))) = false := pref_ne h.1
    have h2 : ((x.length : Int) == -1) = false := by rw [beq_eq_false_iff_ne]; omega
    rw [h1, h2]
    simp
theorem index_not {b : UInt8} : ∀ {x : List UInt8}, b ∉ x → Lib.index x [b] = -1
  | [], _ => rfl
  | c :: x, h => by
    simp only [List.mem_cons, not_or] at h
    rw [Lib.index, index_not h.2]
    have h1 : ([b].isPrefixOf (c :: x)) = false := pref_ne h.1
    rw [h1]
    rfl
theorem cut_mid {b : UInt8} {x s : List UInt8} (h : b ∉ x) : Lib.cut (x ++ b :: s) [b] = (x, s, true) := by
  unfold Lib.cut
  rw [index_mid s h, if_pos (by omega)]
  simp
theorem replace_mid {b c : UInt8} {x s : List UInt8} (h : b ∉ x) (hbc : b ≠ c) : Lib.replace (x ++ b :: s) [b] [c] 1 = x ++ c :: s := by
  have h1 : Lib.count (x ++ b :: s) [b] ≠ 0 := by
    rw [Lib.count_hit (by simp) (index_mid s h)]
    omega
  have h2 : Lib.replaceNum (x ++ b :: s) [b] 1 = 1 := by
    unfold Lib.replaceNum
    rw [if_neg (by omega)]
    rfl
  unfold Lib.replace
  rw [if_neg (by simpa using hbc), h2, Lib.replaceK_hit _ _ _ _ _ (index_mid s h)]
  simp [Lib.replaceK]
theorem split_parts (b : UInt8) : ∀ s : List UInt8, Lib.splitK [b] 0 (Lib.count s [b]) s = parts b s
  | [] => rfl
  | c :: s => by
    by_cases hc : c = b
    · subst hc
      rw [Lib.count_cons_eq, parts, if_pos rfl, Nat.add_comm, Lib.splitK]
      have h0 : Lib.index (c :: s) [c] = 0 := by simp [Lib.index]
      rw [h0, if_neg (by decide), ← split_parts c s]
      simp
    · rw [Lib.count_cons_ne _ _ _ hc, parts, if_neg hc, ← split_parts b s]
      have h1 : ([b].isPrefixOf (c :: s)) = false := pref_ne (Ne.symm hc)
      cases hk : Lib.count s [b] with
      | zero => rfl
      | succ k =>
        obtain ⟨i, hi⟩ := Lib.index_of_count (s := s) (old := [b]) (by omega)
        have h2 : ((i : Int) == -1) = false := by rw [beq_eq_false_iff_ne]; omega
        have h3 : Lib.index (c :: s) [b] = i + 1 := by
          rw [Lib.index, h1, hi, h2]
          simp
        have h4 : ((i : Int) + 1 == -1) = false := by rw [beq_eq_false_iff_ne]; omega
        rw [Lib.splitK, h3, h4, Lib.splitK, hi, h2]
        have e1 : ((i : Int) + 1).toNat = i + 1 := by omega
        simp [e1]
theorem parts_len (b : UInt8) : ∀ s : List UInt8, (parts b s).length ≤ s.length + 1
  | [] => by simp [parts]
  | c :: s => by
    have := parts_len b s
    unfold parts
    split
    · simp
      omega
    · simp
      omega
theorem parts_sub (b : UInt8) : ∀ (s : List UInt8) (p : List UInt8), p ∈ parts b s → p.length ≤ s.length
  | [], p, h => by simp [parts] at h; simp [h]
  | c :: s, p, h => by
    unfold parts at h
    split at h
    · rcases List.mem_cons.1 h with h | h
      · simp [h]
      · have := parts_sub b s p h
        simp
        omega
    · rcases List.mem_cons.1 h with h | h
      · have := parts_sub b s ((parts b s).headD []) (by rw [parts_cons b s]; simp)
        simp [h]
        simpa using this
      · have := parts_sub b s p (by rw [parts_cons b s]; simp [h])
        simp
        omega
end Go.Proofs.YtcjbjpobpefehaaGreatDoor

namespace Go.Proofs.YtcjbjpobpefehaaGreatDoor
open Go.RowKit

theorem wf_i64_le {x : Int} (h : (Lit.int .i64 x).wf = true) : -9223372036854775808 ≤ x ∧ x ≤ 9223372036854775807 := by
  simp [Lit.wf, IntKind.min, IntKind.max, IntKind.signed, IntKind.bits] at h
  omega
def inB (n lo hi : Int) : Bool := decide (lo ≤ n ∧ n ≤ hi)
theorem inB_iff {n lo hi : Int} : inB n lo hi = true ↔ lo ≤ n ∧ n ≤ hi := by simp [inB]
theorem i_in (n lo hi : Int) (w : World) :
    Calls Tryz.prog 47 #[.int .i64 n, .int .i64 lo, .int .i64 hi] w fun e w' => e = .returned (.bool (inB n lo hi)) ∧ w = w' := by
  by_cases h1 : lo ≤ n <;> by_cases h2 : n ≤ hi
  all_goals
    go_enter Tryz.func47, Tryz.ntmps47
    go_wp2
    all_goals go_ret
    all_goals exact ⟨by simp [inB, h1, h2] <;> omega, rfl⟩
def amtB (n : Int) : Bool := inB n 0 1125899906842624
theorem amtB_iff {n : Int} : amtB n = true ↔ 0 ≤ n ∧ n ≤ 1125899906842624 := inB_iff
theorem i_AmtOk (n : Int) (w : World) :
    Calls Tryz.prog 46 #[.int .i64 n] w fun e w' => e = .returned (.bool (amtB n)) ∧ w = w' := by
  go_enter Tryz.func46, Tryz.ntmps46
  go_wp2_with (go_at_call 47; refine (i_in _ _ _ _).mono ?_; rintro e w' ⟨rfl, rfl⟩)
  go_ret
  exact ⟨rfl, rfl⟩
theorem s_AmtOk (n : Int) (w : World) :
    Calls Tryz.prog 21 #[.int .i64 n] w fun e w' => e = .returned (.bool (amtB n)) ∧ w = w' := by
  by_cases h1 : 0 ≤ n <;> by_cases h2 : n ≤ 1125899906842624
  all_goals
    go_enter Tryz.func21, Tryz.ntmps21
    go_wp2
    all_goals go_ret
    all_goals exact ⟨by simp [amtB, inB, h1, h2] <;> omega, rfl⟩
def timeB (n : Int) : Bool := inB n 0 1000000000
theorem timeB_iff {n : Int} : timeB n = true ↔ 0 ≤ n ∧ n ≤ 1000000000 := inB_iff
def isChanB (n : Int) : Bool := inB n 1 99
theorem isChanB_iff {n : Int} : isChanB n = true ↔ 1 ≤ n ∧ n ≤ 99 := inB_iff
theorem i_isChan (n : Int) (w : World) :
    Calls Tryz.prog 49 #[.int .i64 n] w fun e w' => e = .returned (.bool (isChanB n)) ∧ w = w' := by
  go_enter Tryz.func49, Tryz.ntmps49
  go_wp2_with (go_at_call 47; refine (i_in _ _ _ _).mono ?_; rintro e w' ⟨rfl, rfl⟩)
  go_ret
  exact ⟨rfl, rfl⟩
theorem s_AddAmt_yes (a b : Int) (w : World) (h1 : amtB a = true) (h2 : amtB b = true) (h3 : amtB (a + b) = true) :
    Calls Tryz.prog 87 #[.int .i64 a, .int .i64 b] w fun e w' => e = .returned (.tuple #[.int .i64 (a + b), .bool true]) ∧ w = w' := by
  obtain ⟨a1, a2⟩ := amtB_iff.1 h1
  obtain ⟨b1, b2⟩ := amtB_iff.1 h2
  go_enter Tryz.func87, Tryz.ntmps87
  go_wp2_with (go_at_call 21; refine (s_AmtOk _ _).mono ?_; rintro e w' ⟨rfl, rfl⟩)
  go_ret2
  exact ⟨rfl, rfl⟩
theorem s_AddAmt_no (a b : Int) (w : World) (h : (amtB a && amtB b && amtB (a + b)) = false) :
    Calls Tryz.prog 87 #[.int .i64 a, .int .i64 b] w fun e w' => e = .returned (.tuple #[.int .i64 0, .bool false]) ∧ w = w' := by
  cases h1 : amtB a
  · clear h
    go_enter Tryz.func87, Tryz.ntmps87
    go_wp2_with (go_at_call 21; refine (s_AmtOk _ _).mono ?_; rintro e w' ⟨rfl, rfl⟩)
    go_ret2
    exact ⟨rfl, rfl⟩
  · cases h2 : amtB b
    · clear h
      go_enter Tryz.func87, Tryz.ntmps87
      go_wp2_with (go_at_call 21; refine (s_AmtOk _ _).mono ?_; rintro e w' ⟨rfl, rfl⟩)
      go_ret2
      exact ⟨rfl, rfl⟩
    · have h3 : amtB (a + b) = false := by simpa [h1, h2] using h
      clear h
      obtain ⟨a1, a2⟩ := amtB_iff.1 h1
      obtain ⟨b1, b2⟩ := amtB_iff.1 h2
      go_enter Tryz.func87, Tryz.ntmps87
      go_wp2_with (go_at_call 21; refine (s_AmtOk _ _).mono ?_; rintro e w' ⟨rfl, rfl⟩)
      go_ret2
      exact ⟨rfl, rfl⟩
theorem all_take_succ {α : Type} (l : List α) (p : α → Bool) {k : Nat} (hk : k < l.length) : (l.take (k + 1)).all p = ((l.take k).all p && p l[k]) := by
  rw [List.take_succ_eq_append_getElem hk, List.all_append]
  simp
theorem all_false {α : Type} (l : List α) (p : α → Bool) {k : Nat} (hk : k < l.length) (h : p l[k] = false) : l.all p = false := by
  rw [List.all_eq_false]
  exact ⟨l[k], List.getElem_mem hk, by simp [h]⟩
theorem foldl_take_succ {α β : Type} (l : List α) (f : β → α → β) (b : β) {k : Nat} (hk : k < l.length) : (l.take (k + 1)).foldl f b = f ((l.take k).foldl f b) l[k] := by
  rw [List.take_succ_eq_append_getElem hk, List.foldl_append]
  rfl
end Go.Proofs.YtcjbjpobpefehaaGreatDoor

namespace Go.Proofs.YtcjbjpobpefehaaGreatDoor
open Go.RowKit Go.Deep

theorem wpList_append_empty {P : Program} {w : World} {ops : Array Oper} {rest : List Oper} {o : Oper} {a : Act} {Q : Exit → Act → World → Prop} (hgd : o.guard = none) (s x : Operand) (t : TypeId)
    (ho : o.op = .call { callee := .builtin .append, args := #[s, x], argTypes := #[t, t] })
    (e : TypeId) (i : TypeInfo) (ht : P.underlying t = some (.slice e)) (hi : P.info? e = some i)
    (A : Option Addr) (c : Nat) (hs : a.eval s = .slice none 0 0) (hx : a.eval x = .slice A 0 c)
    (h : wpList P ops Q rest (a.put o.dst (.slice none 0 0)) w) : wpList P ops Q (o :: rest) a w := by
  refine wpList_plain hgd fun K hK => ?_
  have hrun : (Builtin.append_ #[t, t] o.type #[.slice none 0 0, .slice A 0 c]).run P w = .ok (.slice none 0 0) w := by
    cases A <;> simp [Builtin.append_, run_underlying ht, sizeOf, typeInfo, hi, Builtin.lenOf, Builtin.firstCells, loadCells, loadCellsFrom]
  unfold Oper.wp
  simp [execOp, ho, resolve, invoke, builtin, hs, hx, hrun, Result.andThen]
  exact hK _ _ h

section
variable {w : World} {B size : Nat} {A : Option Addr} {rows : List (List Value)}
/-- The cells of a slice that is read, one after the other. -/
theorem Rd.flat (h : Rd w B size A rows) (hs : 0 < size) (hn : 0 < rows.length) : ∃ b off, A = some ⟨b, off, none⟩ ∧ b < B ∧ ∀ j u, rows.flatten[j]? = some u → w.cell? ⟨b, off + j, none⟩ = some u := by
  obtain ⟨b, off, e, hb, hc⟩ := h.2 hn
  refine ⟨b, off, e, hb, fun j u hu => ?_⟩
  have hj : j < rows.length * size := by
    have := (List.getElem?_eq_some_iff.1 hu).1
    rwa [flatten_size rows size h.1] at this
  have hi : j / size < rows.length := (Nat.div_lt_iff_lt_mul hs).2 hj
  have e1 : rows[j / size]? = some rows[j / size] := List.getElem?_eq_getElem hi
  have e2 := flatten_get rows size h.1 (j / size) (j % size) _ e1 (Nat.mod_lt _ hs)
  rw [Nat.div_add_mod' j size, hu] at e2
  have := hc (j / size) _ (j % size) u e1 e2.symm
  rwa [Nat.add_assoc, Nat.div_add_mod' j size] at this
end

theorem Rd.take {w : World} {B size : Nat} {A : Option Addr} {rows : List (List Value)} (h : Rd w B size A rows) (k : Nat) : Rd w B size A (rows.take k) :=
  ⟨fun r hr => h.1 r (List.mem_of_mem_take hr), fun hn => by
    obtain ⟨b, off, e, hb, hc⟩ := h.2 (by rw [List.length_take] at hn; omega)
    refine ⟨b, off, e, hb, fun i r j v h1 h2 => hc i r j v ?_ h2⟩
    rw [List.getElem?_take] at h1
    split at h1
    · exact h1
    · cases h1⟩
/-- append(nil, l...): a new slice of the same rows. -/
theorem wpList_copy_rows {P : Program} {w : World} {ops : Array Oper} {rest : List Oper} {o : Oper} {a : Act} {Q : Exit → Act → World → Prop} (hgd : o.guard = none) (s x : Operand) (t : TypeId)
    (ho : o.op = .call { callee := .builtin .append, args := #[s, x], argTypes := #[t, t] })
    (e : TypeId) (i : TypeInfo) (z : Value) (size bytes : Nat) (ht : P.underlying t = some (.slice e)) (hi : P.info? e = some i) (hz : i.zero = some z)
    (hsize : i.size = size) (hby : i.bytes = bytes) (hzs : z.cells.size = size) (hsz : 0 < size) (hb4 : bytes ≤ 4096)
    (A : Option Addr) (c : Nat) (rows : List (List Value)) (hs : a.eval s = .slice none 0 0) (hx : a.eval x = .slice A rows.length c) (hr : Rd w w.heap.size size A rows)
    (h1 : ∀ u ∈ rows.flatten, u.oneCell' = true) (hlen : rows.length ≤ 4194304)
    (h : ∀ A' cap w', Ow w' w.heap.size e size (.slice A' rows.length cap) rows → Below w.heap.size w w' → wpList P ops Q rest (a.put o.dst (.slice A' rows.length cap)) w') : wpList P ops Q (o :: rest) a w := by
  by_cases hn : 0 < rows.length
  · obtain ⟨b, off, rfl, hb, hc⟩ := hr.flat hsz hn
    refine wpList_append_lies w hgd s x t ho w.heap.size e i z size bytes ht hi hz hsize hby hzs hsz (.slice none 0 0) 0 [] hs (World.ownsRow_nil _ _ _ _) ⟨b, off, none⟩ rows.length c rows.flatten hx (flatten_size rows size hr.1)
      (fun j u hu => by
        have := hc j u hu
        rwa [show (⟨b, off, none⟩ : Addr).add j = ⟨b, off + j, none⟩ by unfold Addr.add; split <;> simp_all]) h1 hn (by simp only [maxLen]; omega)
      (by
        have : (0 + rows.length) * bytes ≤ 4194304 * 4096 := Nat.mul_le_mul (by omega) hb4
        omega) (Nat.le_refl _) w.heap.size rfl ?_
    intro g cap w' hown hgr _ _
    rw [Nat.zero_add, List.nil_append] at hown
    rw [Nat.zero_add]
    exact h _ _ _ ⟨hr.1, hown⟩ ⟨hgr.os, hgr.tape, hgr.output, hgr.size, fun k hk => hgr.block k hk (by simp [Value.ownBlock])⟩
  · have h0 : rows = [] := List.eq_nil_of_length_eq_zero (by omega)
    subst h0
    exact wpList_append_empty hgd s x t ho e i ht hi A c hs hx (h none 0 w Ow.nil_ (Below.refl _ _))

theorem set_flatten : ∀ (rows : List (List Value)) (size i j : Nat) (r : List Value) (u : Value), (∀ r ∈ rows, r.length = size) → rows[i]? = some r → j < size → rows.flatten.set (i * size + j) u = (rows.set i (r.set j u)).flatten
  | [], _, _, _, _, _, _, h, _ => by simp at h
  | r0 :: rows, size, 0, j, r, u, hu, h, hj => by
    simp only [List.getElem?_cons_zero, Option.some.injEq] at h
    subst h
    have h0 := hu r0 (by simp)
    rw [List.flatten_cons, Nat.zero_mul, Nat.zero_add, List.set_append_left _ _ (by omega), List.set_cons_zero, List.flatten_cons]
  | r0 :: rows, size, i + 1, j, r, u, hu, h, hj => by
    have h0 := hu r0 (by simp)
    have e : (i + 1) * size + j - r0.length = i * size + j := by rw [h0, Nat.succ_mul]; omega
    rw [List.flatten_cons, List.set_append_right _ _ (by rw [h0, Nat.succ_mul]; omega), e, set_flatten rows size i j r u (fun r hr => hu r (by simp [hr])) (by simpa using h) hj, List.set_cons_succ, List.flatten_cons]
section
variable {w : World} {B size g n cap : Nat} {e : TypeId} {rows : List (List Value)}
theorem Ow.cellAt (h : Ow w B e size (.slice (some ⟨g, 0, none⟩) n cap) rows) {i j : Nat} {r : List Value} (hi : rows[i]? = some r) (hj : j < size) : w.cell? ⟨g, i * size + j, none⟩ = r[j]? := by
  have hn : n = rows.length := by
    obtain ⟨A, cap', e1, _⟩ := h.form
    injection e1
  subst hn
  have hi' := (List.getElem?_eq_some_iff.1 hi).1
  rw [h.2.cellAt (i * size + j) (by have := Nat.mul_le_mul_right size hi'; rw [Nat.succ_mul] at this; omega)]
  exact flatten_get rows size h.1 i j r hi hj
theorem Ow.frozenAt (h : Ow w B e size (.slice (some ⟨g, 0, none⟩) n cap) rows) (j : Nat) : w.frozen? ⟨g, j, none⟩ = false := by
  have hn : n = rows.length := by
    obtain ⟨A, cap', e1, _⟩ := h.form
    injection e1
  subst hn
  exact h.2.frozenAt j
theorem Ow.stored (h : Ow w B e size (.slice (some ⟨g, 0, none⟩) n cap) rows) {i j : Nat} {r : List Value} (hi : rows[i]? = some r) (hj : j < size) (u : Value) :
    Ow (w.setCell ⟨g, i * size + j, none⟩ u) B e size (.slice (some ⟨g, 0, none⟩) n cap) (rows.set i (r.set j u)) := by
  have hn : n = rows.length := by
    obtain ⟨A, cap', e1, _⟩ := h.form
    injection e1
  subst hn
  refine ⟨fun r' hr' => ?_, ?_⟩
  · rcases List.mem_or_eq_of_mem_set hr' with h1 | h1
    · exact h.1 _ h1
    · subst h1
      rw [List.length_set]
      exact h.1 r (List.mem_of_getElem? hi)
  · rw [List.length_set, ← set_flatten rows size i j r u h.1 hi hj]
    exact (h.2.stored (i * size + j) u).1
theorem Ow.drew (h : Ow w B e size (.slice (some ⟨g, 0, none⟩) n cap) rows) : Ow w.drew B e size (.slice (some ⟨g, 0, none⟩) n cap) rows := h
end
theorem Ow.empty_ {w : World} {B size g : Nat} {e : TypeId} (hg : g = w.heap.size) (hB : B ≤ g) : Ow (w.alloc (.cells #[] e)) B e size (.slice (some ⟨g, 0, none⟩) 0 0) [] := by
  subst hg
  exact ⟨by simp, World.ownsRow_lit w #[] 0 hB (Nat.zero_le _) (by simp)⟩
end Go.Proofs.YtcjbjpobpefehaaGreatDoor

namespace Go.Proofs.YtcjbjpobpefehaaGreatDoor

section
variable {P : Program} {md : Region.Mode} {ops0 : Array Oper} {o : Oper} {Q : Exit → Act → World → Prop} {S : World → Prop}
/-- What the others hand on: the last operation's step. -/
def lastQ (P : Program) (ops : Array Oper) (o : Oper) (Q : Exit → Act → World → Prop) : Exit → Act → World → Prop
  | .normal, a, w => ∀ K : Act → World → Prop, (∀ a w, Q .normal a w → K a w) → if Region.wanted o (yielded ops a.tmps) = true then Oper.wp P o a w K Q else K (a.put o.dst undef) w
  | e, a, w => Q e a w
def noGuards (ops0 : Array Oper) : Bool := ops0.toList.all fun x => x.guard.isNone
/-- Each operation waits for earlier ones alone. -/
def backOnly (md : Region.Mode) (ops0 : Array Oper) : Bool := (List.range ops0.size).all fun i => match ops0[i]? with
  | some x => x.after.toList.all fun e => !Region.binds md e || decide (e.on < i)
  | none => true
def waitsAll (md : Region.Mode) (n : Nat) (o : Oper) : Bool := ((List.range n).all fun i => o.after.toList.any fun e => Region.binds md e && (e.on == i)) && o.after.toList.all fun e => !Region.binds md e || decide (e.on < n)

theorem push_getD {listed : Array Bool} {i : Nat} {b : Bool} (h : i < listed.size) : (listed.push false).getD i b = listed.getD i b := by
  simp [Array.getD_eq_getD_getElem?, Array.getElem?_push, Nat.ne_of_lt h]
theorem push_getD_last {listed : Array Bool} {b : Bool} : (listed.push false).getD listed.size b = false := by
  simp [Array.getD_eq_getD_getElem?]
theorem getD_any {listed : Array Bool} {i : Nat} (h : i < listed.size) (b c : Bool) : listed.getD i b = listed.getD i c := by
  simp [Array.getD_eq_getD_getElem?, h]
theorem ops_push_lt {i : Nat} (h : i < ops0.size) : (ops0.push o)[i]? = ops0[i]? := by
  rw [Array.getElem?_push, if_neg (by omega)]
/-- Nothing is ready: then all are listed. -/
theorem all_listed (hb : backOnly md ops0 = true) {listed : Array Bool} (hs : listed.size = ops0.size) (hr : Region.ready md ops0 listed = []) : ∀ i, i < ops0.size → listed.getD i false = true := by
  intro i
  induction i using Nat.strongRecOn with
  | _ i ih =>
    intro hi
    refine Classical.byContradiction fun hc => ?_
    have hc' : listed.getD i true = false := by
      rw [getD_any (by omega) true false]
      simpa using hc
    have : i ∈ Region.ready md ops0 listed := by
      refine mem_ready.2 ⟨hc', ops0[i], by simp [hi], fun e he hbe => ?_⟩
      have h1 := List.all_eq_true.1 hb i (List.mem_range.2 hi)
      simp only [Array.getElem?_eq_getElem hi] at h1
      have h2 := List.all_eq_true.1 h1 e (by simpa using he)
      simp only [hbe, Bool.not_true, Bool.false_or, decide_eq_true_eq] at h2
      exact ih e.on h2 (by omega)
    rw [hr] at this
    cases this
theorem waits_spec {n : Nat} (h : waitsAll md n o = true) : (∀ i, i < n → ∃ e ∈ o.after, Region.binds md e = true ∧ e.on = i) ∧ ∀ e ∈ o.after, Region.binds md e = true → e.on < n := by
  simp only [waitsAll, Bool.and_eq_true] at h
  refine ⟨fun i hi => ?_, fun e he hb => ?_⟩
  · obtain ⟨e, he, h1⟩ := List.any_eq_true.1 (List.all_eq_true.1 h.1 i (List.mem_range.2 hi))
    simp only [Bool.and_eq_true, beq_iff_eq] at h1
    exact ⟨e, by simpa using he, h1⟩
  · have := List.all_eq_true.1 h.2 e (by simpa using he)
    simpa [hb] using this
theorem ready_push (hw : waitsAll md ops0.size o = true) (hb : backOnly md ops0 = true) {listed : Array Bool} (hs : listed.size = ops0.size) {j : Nat} :
    j ∈ Region.ready md (ops0.push o) (listed.push false) ↔ (j ∈ Region.ready md ops0 listed ∨ (j = ops0.size ∧ ∀ i, i < ops0.size → listed.getD i false = true)) := by
  obtain ⟨h1, h2⟩ := waits_spec hw
  rw [mem_ready, mem_ready]
  by_cases hj : j < ops0.size
  · rw [push_getD (by omega), ops_push_lt hj]
    constructor
    · rintro ⟨ha, x, hx, hall⟩
      refine .inl ⟨ha, x, hx, fun e he hbe => ?_⟩
      have := hall e he hbe
      have hlt : e.on < ops0.size := by
        have h3 := List.all_eq_true.1 hb j (List.mem_range.2 hj)
        simp only [hx] at h3
        have h4 := List.all_eq_true.1 h3 e (by simpa using he)
        simp only [hbe, Bool.not_true, Bool.false_or, decide_eq_true_eq] at h4
        omega
      rwa [push_getD (by omega)] at this
    · rintro (⟨ha, x, hx, hall⟩ | ⟨rfl, _⟩)
      · refine ⟨ha, x, hx, fun e he hbe => ?_⟩
        have hlt : e.on < ops0.size := by
          have h3 := List.all_eq_true.1 hb j (List.mem_range.2 hj)
          simp only [hx] at h3
          have h4 := List.all_eq_true.1 h3 e (by simpa using he)
          simp only [hbe, Bool.not_true, Bool.false_or, decide_eq_true_eq] at h4
          omega
        rw [push_getD (by omega)]
        exact hall e he hbe
      · omega
  · by_cases he : j = ops0.size
    · subst he
      constructor
      · rintro ⟨_, x, hx, hall⟩
        have hx' : x = o := by simpa using hx.symm
        subst hx'
        refine .inr ⟨rfl, fun i hi => ?_⟩
        obtain ⟨e, he, hbe, rfl⟩ := h1 i hi
        have := hall e he hbe
        rwa [push_getD (by omega)] at this
      · rintro (⟨_, x, hx, _⟩ | ⟨_, hall⟩)
        · simp at hx
        · refine ⟨by rw [← hs]; exact push_getD_last, o, by simp, fun e he hbe => ?_⟩
          have := h2 e he hbe
          rw [push_getD (by omega)]
          exact hall _ this
    · constructor
      · rintro ⟨_, x, hx, _⟩
        rw [Array.getElem?_eq_none (by simp; omega)] at hx
        cases hx
      · rintro (⟨_, x, hx, _⟩ | ⟨rfl, _⟩)
        · rw [Array.getElem?_eq_none (by omega)] at hx
          cases hx
        · exact absurd rfl he
theorem upon_Q {P : Program} {x : Oper} {a : Act} {w : World} {K K' : Act → World → Prop} {Q Q' : Exit → Act → World → Prop} (hK : ∀ a w, K a w → K' a w) (hP : ∀ c a w, Q (.panic c) a w → Q' (.panic c) a w) (hO : LetsOut Q → LetsOut Q')
    (h : x.wp P a w K Q) : x.wp P a w K' Q' := by
  unfold Oper.wp at *
  generalize (execOp a.eval x).run P w = r at *
  cases r with
  | ok n w' =>
    cases n <;> simp only [Oper.upon] at h ⊢ <;>
      first
        | exact hK _ _ h
        | exact Calls.mono h (fun e w'' he => by cases e <;> first | exact hK _ _ he | exact hP _ _ _ he | exact hO he)
        | exact Rows.mono h (fun _ _ he => hK _ _ he)
  | halt x w' => cases x <;> simp only [Oper.upon] at h ⊢ <;> first | exact hP _ _ _ h | exact h
theorem lets_last {ops : Array Oper} (h : LetsOut (lastQ P ops o Q)) : LetsOut Q := h
theorem wpAny_last_step (hw : waitsAll md ops0.size o = true) (hb : backOnly md ops0 = true) {listed : Array Bool} (hs : listed.size = ops0.size) (hr : Region.ready md ops0 listed = []) {a : Act} {w : World}
    (h : lastQ P (ops0.push o) o Q .normal a w) (f : Nat) : wpAny P md (ops0.push o) Q (f + 1) (listed.push false) a w := by
  have hall := all_listed hb hs hr
  have hend : Region.ready md (ops0.push o) ((listed.push false).setIfInBounds ops0.size true) = [] := by
    refine List.eq_nil_iff_forall_not_mem.2 fun j hj => ?_
    obtain ⟨h1, x, hx, _⟩ := mem_ready.1 hj
    have hjs : j < ops0.size + 1 := by
      have := (Array.getElem?_eq_some_iff.1 hx).1
      simpa using this
    rw [← hs] at h1 hjs
    by_cases hjl : j = listed.size
    · subst hjl
      simp [Array.getD_eq_getD_getElem?] at h1
    · have hjlt : j < listed.size := by omega
      have h3 := hall j (by omega)
      simp [Array.getD_eq_getD_getElem?, Array.getElem_push, hjlt, Ne.symm hjl, Nat.lt_succ_of_lt hjlt] at h1 h3
      rw [h3] at h1
      cases h1
  refine ⟨fun h0 => ?_, fun i hi => ?_⟩
  · have : ops0.size ∈ Region.ready md (ops0.push o) (listed.push false) := (ready_push hw hb hs).2 (.inr ⟨rfl, hall⟩)
    rw [h0] at this
    cases this
  · rcases (ready_push hw hb hs).1 hi with hi | ⟨rfl, _⟩
    · rw [hr] at hi
      cases hi
    · have hstep := h (fun a' w' => wpAny P md (ops0.push o) Q f ((listed.push false).setIfInBounds ops0.size true) a' w') (fun a' w' hq => by
        cases f with
        | zero => exact ⟨hend, hq⟩
        | succ f => exact ⟨fun _ => hq, by rw [hend]; simp⟩)
      unfold wpOp
      simp only [Array.getElem?_push_size]
      split
      · rename_i hwd
        rw [if_pos hwd] at hstep
        exact .inl hstep
      · rename_i hwd
        rw [if_neg hwd] at hstep
        exact hstep
theorem wpAny_of_last (hg : noGuards ops0 = true) (hw : waitsAll md ops0.size o = true) (hb : backOnly md ops0 = true) : ∀ (f : Nat) (listed : Array Bool) (a : Act) (w : World), listed.size = ops0.size →
    wpAnyH P md ops0 (lastQ P (ops0.push o) o Q) S f listed a w → wpAny P md (ops0.push o) Q (f + 1) (listed.push false) a w
  | 0, listed, a, w, hs, h => wpAny_last_step hw hb hs h.1 h.2 0
  | f + 1, listed, a, w, hs, h => by
    by_cases hr : Region.ready md ops0 listed = []
    · exact wpAny_last_step hw hb hs hr (h.1 hr) (f + 1)
    · obtain ⟨j, hj⟩ := List.exists_mem_of_ne_nil _ hr
      have hnot : ¬ ∀ i, i < ops0.size → listed.getD i false = true := fun hall => by
        obtain ⟨h1, x, hx, _⟩ := mem_ready.1 hj
        have hjs := (Array.getElem?_eq_some_iff.1 hx).1
        have := hall j hjs
        rw [getD_any (by omega) false true, h1] at this
        cases this
      refine ⟨fun h0 => ?_, fun i hi => ?_⟩
      · have := (ready_push hw hb hs).2 (.inl hj)
        rw [h0] at this
        cases this
      · rcases (ready_push hw hb hs).1 hi with hi | ⟨_, hall⟩
        · have hstep := h.2 i hi
          obtain ⟨_, x, hx, _⟩ := mem_ready.1 hi
          have his := (Array.getElem?_eq_some_iff.1 hx).1
          have hgx : x.guard = none := by
            have := List.all_eq_true.1 hg x (by
              have hm : x ∈ ops0 := Array.mem_of_getElem? hx
              simpa using hm)
            simpa using this
          have hset : (listed.push false).setIfInBounds i true = (listed.setIfInBounds i true).push false := by
            apply Array.ext
            · simp
            · intro k h1 h2
              simp only [Array.size_setIfInBounds, Array.size_push] at h1
              by_cases hk : k < listed.size
              · rw [Array.getElem_push, dif_pos (by simpa using hk)]
                rw [Array.getElem_setIfInBounds, Array.getElem_setIfInBounds, Array.getElem_push, dif_pos hk]
                simp
                omega
              · have : k = listed.size := by omega
                subst this
                have hne : i ≠ listed.size := by omega
                simp [Array.getElem_push, hne]
          have key : ∀ a' w', (S w' ∧ wpAnyH P md ops0 (lastQ P (ops0.push o) o Q) S f (listed.setIfInBounds i true) a' w') → wpAny P md (ops0.push o) Q (f + 1) ((listed.push false).setIfInBounds i true) a' w' := fun a' w' h' => by
            rw [hset]
            exact wpAny_of_last hg hw hb f _ a' w' (by simpa using hs) h'.2
          unfold wpOp at hstep ⊢
          rw [ops_push_lt his]
          simp only [hx] at hstep ⊢
          have hwd : ∀ y : Nat → Option Bool, Region.wanted x y = true := fun y => by simp [Region.wanted, hgx]
          rw [if_pos (hwd _)] at hstep ⊢
          rcases hstep with hstep | ⟨h1, h2⟩
          · exact .inl (upon_Q key (fun _ _ _ h => h) (fun h => h) hstep)
          · exact .inr ⟨h1, h2⟩
        · exact absurd hall hnot
theorem wp_region_last {ops : Array Oper} {id : Nat} {a : Act} {w : World} (he : ops = ops0.push o) (hm : P.follows .mixedOrders = true) (hg : noGuards ops0 = true) (hw : waitsAll .any ops0.size o = true) (hb : backOnly .any ops0 = true)
    (hS : S w.drew) (h : S w.drew → wpAnyH P .any ops0 (lastQ P ops o Q) S ops0.size (Array.replicate ops0.size false) a w.drew) : (Code.region id ops true).wp P Q a w := by
  subst he
  refine wp_region_any hm ?_
  have := wpAny_of_last hg hw hb ops0.size (Array.replicate ops0.size false) a w.drew (by simp) (h hS)
  rw [Array.size_push, Array.replicate_succ]
  exact this
end
theorem wp_region_lastL {P : Program} {o : Oper} {Q : Exit → Act → World → Prop} {S : World → Prop} {l : List Oper} {id : Nat} {a : Act} {w : World} (ho : l.getLast? = some o) (hm : P.follows .mixedOrders = true) (hg : noGuards l.dropLast.toArray = true) (hw : waitsAll .any l.dropLast.toArray.size o = true) (hb : backOnly .any l.dropLast.toArray = true)
    (hS : S w.drew) (h : S w.drew → wpAnyH P .any l.dropLast.toArray (lastQ P l.toArray o Q) S l.dropLast.toArray.size (Array.replicate l.dropLast.toArray.size false) a w.drew) : (Code.region id l.toArray true).wp P Q a w := by
  refine wp_region_last (S := S) (ops0 := l.dropLast.toArray) (o := o) ?_ hm hg hw hb hS h
  have hne : l ≠ [] := fun e => by subst e; cases ho
  have h1 := List.dropLast_concat_getLast hne
  have h2 : l.getLast hne = o := by rw [List.getLast?_eq_some_getLast hne] at ho; injection ho
  rw [h2] at h1
  rw [List.push_toArray, h1]
end Go.Proofs.YtcjbjpobpefehaaGreatDoor

namespace Go.Proofs.YtcjbjpobpefehaaGreatDoor
open Go.RowKit

section
variable {P : Program} {ops : Array Oper} {md : Region.Mode} {W : World}
def Above (W w : World) : Prop := Below W.heap.size W w
theorem Above.refl (W : World) : Above W W := Below.refl _ _
theorem Above.step {w w' : World} (h : Above W w) (hb : Below w.heap.size w w') : Above W w' := Below.trans h (Below.mono hb (Below.size h))

def OpGives (P : Program) (o : Oper) (a : Act) (v : Value) (w : World) : Prop :=
  match (execOp a.eval o).run P w with
  | .ok (.value u) w' => u = v ∧ Below w.heap.size w w'
  | .ok .skip w' => v = undef ∧ Below w.heap.size w w'
  | .ok (.enter f args) w' => Below w.heap.size w w' ∧ Calls P f args w' (fun e w'' => e = .returned v ∧ Below w'.heap.size w' w'')
  | _ => False
def Steady (P : Program) (ops : Array Oper) (W : World) (o : Oper) (v : Value) (a : Act) : Prop :=
  (Region.wanted o (yielded ops a.tmps) = true ∧ ∀ w, Above W w → OpGives P o a v w) ∨ (Region.wanted o (yielded ops a.tmps) = false ∧ v = undef)
theorem Steady.of_same {o : Oper} {v : Value} {a a' : Act} (h : Steady P ops W o v a) (he : execOp a'.eval o = execOp a.eval o)
    (hw : Region.wanted o (yielded ops a'.tmps) = Region.wanted o (yielded ops a.tmps)) : Steady P ops W o v a' := by
  unfold Steady OpGives at *
  rw [he, hw]
  exact h

def steadyOp (P : Program) (ops : Array Oper) (W : World) (i : Nat) (K : Act → Prop) (a : Act) : Prop :=
  match ops[i]? with
  | none => K a
  | some o => ∃ v, Steady P ops W o v a ∧ K (a.put o.dst v)
theorem steadyOp_mono {i : Nat} {a : Act} {K K' : Act → Prop} (h : ∀ a, K a → K' a) (hh : steadyOp P ops W i K a) : steadyOp P ops W i K' a := by
  unfold steadyOp at *
  split
  · rename_i ho
    simp only [ho] at hh
    exact h _ hh
  · rename_i o ho
    simp only [ho] at hh
    obtain ⟨v, h1, h2⟩ := hh
    exact ⟨v, h1, h _ h2⟩
theorem wpOp_of_steady {i : Nat} {a : Act} {K : Act → Prop} {K' : Act → World → Prop} {Q' : Exit → Act → World → Prop} {w : World} (hw : Above W w) (h : ∀ a w, Above W w → K a → K' a w)
    (hh : steadyOp P ops W i K a) : wpOp P ops Q' i K' a w := by
  unfold steadyOp at hh
  unfold wpOp
  split
  · rename_i ho
    simp only [ho] at hh
    exact h _ _ hw hh
  · rename_i o ho
    simp only [ho] at hh
    obtain ⟨v, hs, hk⟩ := hh
    rcases hs with ⟨hwd, hg⟩ | ⟨hwd, rfl⟩
    · have hgw := hg w hw
      rw [if_pos hwd]
      left
      unfold OpGives at hgw
      unfold Oper.wp
      generalize (execOp a.eval o).run P w = r at *
      cases r with
      | ok n w' =>
        cases n <;> simp only at hgw <;> simp only [Oper.upon]
        case value u =>
          obtain ⟨rfl, hb⟩ := hgw
          exact h _ _ (hw.step hb) hk
        case skip =>
          obtain ⟨rfl, hb⟩ := hgw
          exact h _ _ (hw.step hb) hk
        case enter f args =>
          obtain ⟨hb, hc⟩ := hgw
          refine hc.mono fun e w'' ⟨he, hb2⟩ => ?_
          subst he
          exact h _ _ ((hw.step hb).step hb2) hk
      | halt x w' => simp only at hgw
    · rw [if_neg (by simp [hwd])]
      exact h _ _ hw hk

def anySteady (P : Program) (md : Region.Mode) (ops : Array Oper) (W : World) (Q : Act → Prop) : Nat → Array Bool → Act → Prop
  | 0, listed, a => Region.ready md ops listed = [] ∧ Q a
  | fuel + 1, listed, a =>
    (Region.ready md ops listed = [] → Q a) ∧
    ∀ i ∈ Region.ready md ops listed, steadyOp P ops W i (anySteady P md ops W Q fuel (listed.setIfInBounds i true)) a
theorem wpAny_of_steady {Q : Act → Prop} {Q' : Exit → Act → World → Prop} (hQ : ∀ a w, Above W w → Q a → Q' .normal a w) : ∀ (fuel : Nat) (listed : Array Bool) (a : Act) (w : World), Above W w →
    anySteady P md ops W Q fuel listed a → wpAny P md ops Q' fuel listed a w
  | 0, _, _, _, hw, h => ⟨h.1, hQ _ _ hw h.2⟩
  | fuel + 1, _, _, _, hw, h => ⟨fun h0 => hQ _ _ hw (h.1 h0), fun i hi => wpOp_of_steady hw (fun a' w' hw' => wpAny_of_steady hQ fuel _ a' w' hw') (h.2 i hi)⟩

theorem steadyOp_put {j : Nat} {oi oj : Oper} {v : Value} (hj : ops[j]? = some oj) (hap : oi.apart ops oj = true)
    (hsi : ∀ cs b, oi.op ≠ .select cs b) (hsj : ∀ cs b, oj.op ≠ .select cs b) {K : Act → Prop} {a : Act}
    (hy : Steady P ops W oi v a) (h : steadyOp P ops W j K (a.put oi.dst v)) :
    steadyOp P ops W j (fun a' => Steady P ops W oi v a' ∧ K (a'.put oi.dst v)) a := by
  obtain ⟨h1, h2, h3⟩ := Oper.apart_spec hap
  unfold steadyOp at *
  simp only [hj] at *
  obtain ⟨u, hu, hk⟩ := h
  refine ⟨u, hu.of_same (execOp_put oj hsj a oi.dst v h1).symm (wanted_put oj a oi.dst v h1).symm, hy.of_same (execOp_put oi hsi a oj.dst u h3) (wanted_put oi a oj.dst u h3), ?_⟩
  rw [← Act.put_comm a v u h2]
  exact hk

theorem anySteady_first {Q : Act → Prop} {i : Nat} {oi : Oper} {v : Value} (hi : ops[i]? = some oi) (hsel : ∀ (j : Nat) (o : Oper) cs b, ops[j]? = some o → o.op ≠ .select cs b) (fuel : Nat) :
    ∀ (listed : Array Bool) (a : Act),
      (∀ j oj, ops[j]? = some oj → j ≠ i → listed.getD j true = false → (∀ e ∈ oj.after, Region.binds md e = true → e.on ≠ i) → oi.apart ops oj = true) →
      i ∈ Region.ready md ops listed → Steady P ops W oi v a →
      anySteady P md ops W Q fuel (listed.setIfInBounds i true) (a.put oi.dst v) → anySteady P md ops W Q (fuel + 1) listed a := by
  have self : ∀ {K : Act → Prop} {a : Act}, Steady P ops W oi v a → K (a.put oi.dst v) → steadyOp P ops W i K a := fun hy hk => by
    unfold steadyOp
    simp only [hi]
    exact ⟨v, hy, hk⟩
  induction fuel with
  | zero =>
    intro listed a _ hr hy H
    refine ⟨fun h => (by rw [h] at hr; cases hr), fun j hj => ?_⟩
    by_cases hji : j = i
    · subst hji
      exact self hy H
    · have hm := ready_mono hj hji
      rw [H.1] at hm
      cases hm
  | succ fuel ih =>
    intro listed a hfree hr hy H
    refine ⟨fun h => (by rw [h] at hr; cases hr), fun j hj => ?_⟩
    by_cases hji : j = i
    · subst hji
      exact self hy H
    · have h1 := H.2 j (ready_mono hj hji)
      obtain ⟨hjun, oj, hoj, hall⟩ := mem_ready.1 hj
      have hnot : ∀ e ∈ oj.after, Region.binds md e = true → e.on ≠ i := fun e he hb heq => by
        have g1 := hall e he hb
        have g0 := (mem_ready.1 hr).1
        rw [heq, getD_both g0] at g1
        cases g1
      have h2 := steadyOp_put hoj (hfree j oj hoj hji hjun hnot) (fun cs b => hsel i oi cs b hi) (fun cs b => hsel j oj cs b hoj) hy h1
      refine steadyOp_mono (fun a' h3 => ih (listed.setIfInBounds j true) a' (fun k ok hk hki hun hno => hfree k ok hk hki ?_ hno) (ready_mono hr (Ne.symm hji)) h3.1 ?_) h2
      · by_cases hjk : j = k
        · subst hjk
          exact hjun
        · rwa [getD_set_ne true hjk] at hun
      · rw [Array.setIfInBounds_comm _ _ hji]
        exact h3.2

/-- The walk in the order of the text. -/
def wpSteady (P : Program) (ops : Array Oper) (W : World) (Q : Act → Prop) : List Oper → Act → Prop
  | [], a => Q a
  | o :: rest, a => ∃ v, Steady P ops W o v a ∧ wpSteady P ops W Q rest (a.put o.dst v)
theorem anySteady_lex {Q : Act → Prop} (hs : Region.noSelect ops = true) : ∀ (l : List Oper) (k : Nat) (listed : Array Bool) (a : Act), (∀ j, l[j]? = ops[k + j]?) →
    Region.lexFrom md ops l.length k listed = true → wpSteady P ops W Q l a → anySteady P md ops W Q l.length listed a
  | [], _, _, _, _, hB, h => ⟨by simpa [Region.lexFrom] using hB, h⟩
  | o :: l, k, listed, a, hl, hB, h => by
    have h0 : ops[k]? = some o := by simpa using (hl 0).symm
    simp only [List.length_cons, Region.lexFrom, Bool.and_eq_true] at hB
    obtain ⟨⟨hr, hf⟩, hB'⟩ := hB
    obtain ⟨v, hy, hK⟩ := h
    exact anySteady_first h0 (Region.noSelect_spec hs) l.length listed a (Region.free_spec h0 hf) (by simpa using hr) hy
      (anySteady_lex hs l (k + 1) _ _ (fun j => by have := hl (j + 1); simpa [Nat.add_assoc, Nat.add_comm 1 j] using this) hB' hK)
theorem wp_region_steady {id : Nat} {Q : Exit → Act → World → Prop} {a : Act} {w : World} {l : List Oper} (hm : P.follows .mixedOrders = true) (hB : Region.lexB .any l.toArray = true)
    (h : wpSteady P l.toArray w.drew (fun a' => ∀ w', Above w.drew w' → Q .normal a' w') l a) : (Code.region id l.toArray true).wp P Q a w := by
  simp only [Region.lexB, Bool.and_eq_true] at hB
  refine wp_region_any hm (wpAny_of_steady (W := w.drew) (Q := fun a' => ∀ w', Above w.drew w' → Q .normal a' w') (fun _ w' hw' hq => hq w' hw') _ _ _ w.drew (Above.refl _) ?_)
  have := anySteady_lex (md := .any) (W := w.drew) hB.1 l 0 (Array.replicate l.toArray.size false) a (by simp) (by simpa using hB.2) h
  simpa using this

/-! ### The steps of the walk -/
theorem wpSteady_nil {Q : Act → Prop} {a : Act} (h : Q a) : wpSteady P ops W Q [] a := h
/-- An operation that yields a value and turns nothing, in every world above. -/
theorem wpSteady_value {Q : Act → Prop} {a : Act} {o : Oper} {rest : List Oper} (v : Value) (hw : Region.wanted o (yielded ops a.tmps) = true)
    (h : ∀ w, Above W w → (execOp a.eval o).run P w = .ok (.value v) w) (hr : ∀ K : Act → Prop, (∀ a, wpSteady P ops W Q rest a → K a) → K (a.put o.dst v)) : wpSteady P ops W Q (o :: rest) a :=
  ⟨v, .inl ⟨hw, fun w hww => by unfold OpGives; rw [h w hww]; exact ⟨rfl, Below.refl _ _⟩⟩, hr _ (fun _ h => h)⟩
/-- An operation whose guard is not met. -/
theorem wpSteady_skip {Q : Act → Prop} {a : Act} {o : Oper} {rest : List Oper} (hw : Region.wanted o (yielded ops a.tmps) = false)
    (hr : ∀ K : Act → Prop, (∀ a, wpSteady P ops W Q rest a → K a) → K (a.put o.dst undef)) : wpSteady P ops W Q (o :: rest) a :=
  ⟨undef, .inr ⟨hw, rfl⟩, hr _ (fun _ h => h)⟩
/-- A call that answers v and leaves what was there. -/
theorem wpSteady_call {Q : Act → Prop} {a : Act} {o : Oper} {rest : List Oper} (f : FuncId) (args : Array Value) (v : Value) (hw : Region.wanted o (yielded ops a.tmps) = true)
    (h : ∀ w, Above W w → (execOp a.eval o).run P w = .ok (.enter f args) w) (hc : ∀ w, Above W w → Calls P f args w (fun e w' => e = .returned v ∧ Below w.heap.size w w'))
    (hr : ∀ K : Act → Prop, (∀ a, wpSteady P ops W Q rest a → K a) → K (a.put o.dst v)) : wpSteady P ops W Q (o :: rest) a :=
  ⟨v, .inl ⟨hw, fun w hww => by unfold OpGives; rw [h w hww]; exact ⟨Below.refl _ _, hc w hww⟩⟩, hr _ (fun _ h => h)⟩
end
#print axioms wp_region_steady
end Go.Proofs.YtcjbjpobpefehaaGreatDoor

namespace Go.Proofs.YtcjbjpobpefehaaGreatDoor
open Go.RowKit

/-- s is the text l -/
def Str (l : List UInt8) (s : ByteArray) : Prop := s = ⟨l.toArray⟩
theorem str_of (l : List UInt8) : ∃ s : ByteArray, (⟨l.toArray⟩ : ByteArray) = s ∧ Hid (Str l s) := ⟨_, rfl, Lib.hid rfl⟩
theorem Str.size {l : List UInt8} {s : ByteArray} (h : Str l s) : s.size = l.length := by
  rw [h]
  show l.toArray.size = l.length
  simp
theorem Str.data {l : List UInt8} {s : ByteArray} (h : Str l s) : s.data.toList = l := by rw [h]
theorem str_self (s : ByteArray) : Str s.data.toList s := by
  unfold Str
  rw [Lib.mk_data]
theorem str_lit {l : List UInt8} {s : ByteArray} (h : s = ⟨l.toArray⟩) : Str l s := h
/-- a sum of texts -/
theorem str_add {l1 l2 : List UInt8} {s1 s2 : ByteArray} (h1 : Str l1 s1) (h2 : Str l2 s2) (hl : l1.length + l2.length ≤ 9223372036854775807) :
    ∃ t : ByteArray, Hid (Str (l1 ++ l2) t) ∧ ∀ W : World, (Op.stringOp .add s1 s2).run Tryz.prog W = .ok (.string t) W := by
  refine ⟨s1 ++ s2, Lib.hid ?_, fun W => run_string_add_sum W _ _ ?_⟩
  · unfold Str
    rw [h1, h2, ByteArray.mk_append_mk]
  · rw [h1.size, h2.size]
    exact hl
theorem rd_one {w : World} {b n : Nat} {e : TypeId} {cs : List Value} (h : w.heap[b]? = some (.cells cs.toArray e (0, 0))) (hn : cs.length = n) : Rd w w.heap.size n (some ⟨b, 0, none⟩) [cs] := by
  refine ⟨fun r hr => by rw [List.mem_singleton.1 hr]; exact hn, fun _ => ⟨b, 0, rfl, (Array.getElem?_eq_some_iff.1 h).1, fun i r j v h1 h2 => ?_⟩⟩
  cases i with
  | zero =>
    have : r = cs := by simpa using h1.symm
    subst this
    rw [blk_cell h]
    simpa using h2
  | succ i => simp at h1
end Go.Proofs.YtcjbjpobpefehaaGreatDoor

namespace Go.Proofs.YtcjbjpobpefehaaGreatDoor
open Go

theorem digitVal_of {d : Nat} (h : d < 10) : Lib.digitVal (UInt8.ofNat (48 + d)) = some d := by
  have e : (UInt8.ofNat (48 + d)).toNat = 48 + d := by
    rw [UInt8.toNat_ofNat']
    omega
  unfold Lib.digitVal
  rw [e, if_pos (by omega)]
  congr 1
  omega
theorem decFrom_snoc {l : List UInt8} {acc n : Nat} {b : UInt8} {d : Nat} (h : Lib.decFrom acc l = some n) (hd : Lib.digitVal b = some d) : Lib.decFrom acc (l ++ [b]) = some (n * 10 + d) := by
  have := Lib.decFrom_take (l ++ [b]) l.length acc n b d (by simpa using h) (by simp) hd
  rw [List.take_of_length_le (by simp)] at this
  exact this
theorem dec_val : ∀ u : Nat, Lib.decFrom 0 (Lib.decDigits u) = some u := by
  intro u
  induction u using Nat.strongRecOn with
  | ind u ih =>
    rw [Lib.decDigits]
    split
    · rename_i h
      have k := digitVal_of h
      simp only [Lib.decFrom, k]
      simp
    · rename_i h
      rw [decFrom_snoc (ih (u / 10) (by omega)) (digitVal_of (show u % 10 < 10 by omega))]
      congr 1
      omega
theorem dec_head {u : Nat} {b : UInt8} {r : List UInt8} (h : Lib.decDigits u = b :: r) : ∃ d, Lib.digitVal b = some d :=
  Lib.digit_of_decFrom _ 0 u (dec_val u) 0 b (by rw [h]; rfl)
/-- what a text says, where it is a number's own text -/
def tnum (s : List UInt8) : Option Int :=
  match Lib.atoi s with
  | some n => if numB n = true ∧ numL n = s then some n else none
  | none => none
theorem atoi_itoa (n : Int) : Lib.atoi (Lib.itoa n) = some n := by
  unfold Lib.itoa
  split
  · have hv := dec_val n.natAbs
    have hne : Lib.decDigits n.natAbs ≠ [] := by
      rw [Lib.decDigits]
      split <;> simp
    simp only [Lib.atoi, Lib.decNat]
    rw [if_pos (by decide), if_neg (by simpa using hne), hv]
    simp only [Option.map_some]
    congr 1
    omega
  · have hv := dec_val n.toNat
    cases hd : Lib.decDigits n.toNat with
    | nil =>
      exfalso
      rw [Lib.decDigits] at hd
      split at hd <;> simp at hd
    | cons b r =>
      obtain ⟨d, h⟩ := dec_head hd
      rw [hd] at hv
      have h1 : ¬ (b == 45) = true := by
        intro k
        have : b = 45 := by simpa using k
        subst this
        simp [Lib.digitVal] at h
      have h2 : ¬ (b == 43) = true := by
        intro k
        have : b = 43 := by simpa using k
        subst this
        simp [Lib.digitVal] at h
      simp only [Lib.atoi, Lib.decNat]
      rw [if_neg h1, if_neg h2, if_neg (by simp), hv]
      simp only [Option.map_some]
      congr 1
      omega
theorem tnum_iff {s : List UInt8} {n : Int} : tnum s = some n ↔ numB n = true ∧ numL n = s := by
  constructor
  · intro h
    unfold tnum at h
    split at h
    · split at h
      · rename_i m hm hk
        have : m = n := by simpa using h
        subst this
        exact hk
      · cases h
    · cases h
  · rintro ⟨h1, rfl⟩
    have e : numL n = Lib.itoa n := numL_in (numB_iff.1 h1)
    unfold tnum
    rw [e, atoi_itoa]
    simp only
    rw [if_pos ⟨h1, e⟩]
theorem tnum_num {n : Int} (h : numB n = true) : tnum (numL n) = some n := tnum_iff.2 ⟨h, rfl⟩
theorem numL_inj {n m : Int} (hn : numB n = true) (hm : numB m = true) (h : numL n = numL m) : n = m := by
  have a := tnum_num hn
  rw [h, tnum_num hm] at a
  simpa using a.symm
theorem tnum_of {s : List UInt8} {n : Int} (hs : s ≠ []) (h : numL n = s) : tnum s = some n := by
  refine tnum_iff.2 ⟨?_, h⟩
  cases hb : numB n with
  | true => rfl
  | false =>
    exfalso
    refine hs ?_
    rw [← h]
    unfold numL
    rw [hb]
    rfl
/-- how a number's text begins -/
theorem num_shape {n : Int} (h : numB n = true) : (0 ≤ n ∧ Lib.decFrom 0 (numL n) = some n.toNat ∧ ∃ b r, numL n = b :: r ∧ b ≠ 45) ∨ (n < 0 ∧ ∃ r, numL n = 45 :: r ∧ Lib.decFrom 0 r = some n.natAbs) := by
  have e : numL n = Lib.itoa n := numL_in (numB_iff.1 h)
  rw [e]
  by_cases h0 : n < 0
  · refine Or.inr ⟨h0, Lib.decDigits n.natAbs, ?_, dec_val _⟩
    unfold Lib.itoa
    rw [if_pos h0]
  · refine Or.inl ⟨by omega, ?_, ?_⟩
    · unfold Lib.itoa
      rw [if_neg h0]
      exact dec_val _
    · unfold Lib.itoa
      rw [if_neg h0]
      cases hd : Lib.decDigits n.toNat with
      | nil =>
        exfalso
        rw [Lib.decDigits] at hd
        split at hd <;> simp at hd
      | cons b r =>
        refine ⟨b, r, rfl, ?_⟩
        rintro rfl
        obtain ⟨d, k⟩ := dec_head hd
        simp [Lib.digitVal] at k
theorem tnum_plain {s : List UInt8} {b : UInt8} {r : List UInt8} (hs : s = b :: r) (hb : b ≠ 45) {n : Int} (h : tnum s = some n) : 0 ≤ n ∧ Lib.decFrom 0 s = some n.toNat := by
  obtain ⟨h1, h2⟩ := tnum_iff.1 h
  rcases num_shape h1 with ⟨a, c, _⟩ | ⟨_, r', c, _⟩
  · rw [h2] at c
    exact ⟨a, c⟩
  · rw [h2, hs] at c
    exact absurd (List.cons.inj c).1 hb
theorem tnum_minus {r : List UInt8} {n : Int} (h : tnum (45 :: r) = some n) : n < 0 ∧ Lib.decFrom 0 r = some n.natAbs := by
  obtain ⟨h1, h2⟩ := tnum_iff.1 h
  rcases num_shape h1 with ⟨_, _, b, r', c, d⟩ | ⟨a, r', c, e⟩
  · rw [h2] at c
    exact absurd (List.cons.inj c).1.symm d
  · rw [h2] at c
    rw [(List.cons.inj c).2]
    exact ⟨a, e⟩
theorem tnum_long {s : List UInt8} (h : 17 < s.length) : tnum s = none := by
  cases k : tnum s with
  | none => rfl
  | some n =>
    have h1 := (tnum_iff.1 k).2
    have h2 := numL_len n
    rw [h1] at h2
    omega
theorem tnum_nil : tnum [] = none := rfl
theorem decFrom_bad {l : List UInt8} {k : Nat} {b : UInt8} (hb : l[k]? = some b) (hd : Lib.digitVal b = none) {acc : Nat} : Lib.decFrom acc l = none := by
  cases h : Lib.decFrom acc l with
  | none => rfl
  | some n =>
    obtain ⟨d, e⟩ := Lib.digit_of_decFrom l acc n h k b hb
    rw [hd] at e
    cases e
end Go.Proofs.YtcjbjpobpefehaaGreatDoor

namespace Go.Proofs.YtcjbjpobpefehaaGreatDoor
open Go.ChangeShapes Go.WideShapes Go.ChangeAt Go.RowKit Go.Deep

theorem step_app1 {P : Program} {w : World} {ops : Array Oper} {o : Oper} {a : Act} {K : Act → World → Prop} {Q : Exit → Act → World → Prop} {E : Prop} (hgd : o.guard = none) (s x : Operand) (t : TypeId)
    (ho : o.op = .call { callee := .builtin .append, args := #[s, x], argTypes := #[t, t] })
    (B : Nat) (e : TypeId) (i : TypeInfo) (z : Value) (size bytes : Nat) (ht : P.underlying t = some (.slice e)) (hi : P.info? e = some i) (hz : i.zero = some z)
    (hsize : i.size = size) (hby : i.bytes = bytes) (hzs : z.cells.size = size) (hsz : 0 < size)
    (v : Value) (rows : List (List Value)) (hs : a.eval s = v) (how : Ow w B e size v rows)
    (g0 c : Nat) (row : List Value) (e' : TypeId) (hx : a.eval x = .slice (some ⟨g0, 0, none⟩) 1 c) (hblk : w.heap[g0]? = some (.cells row.toArray e' (0, 0))) (hrow : row.length = size) (h1 : ∀ u ∈ row, u.oneCell' = true)
    (hlen : rows.length ≤ 4194304) (hbytes : bytes ≤ 4096) (hbase : B ≤ w.heap.size)
    (h : ∀ g cap w', Ow w' B e size (.slice (some ⟨g, 0, none⟩) (rows.length + 1) cap) (rows ++ [row]) → w.grownBy w' v.ownBlock → (v.ownBlock = some g ∨ g = w.heap.size) → g < w'.heap.size →
      K (a.put o.dst (.slice (some ⟨g, 0, none⟩) (rows.length + 1) cap)) w') : if Region.wanted o (yielded ops a.tmps) = true then Oper.wp P o a w K Q else E := by
  refine step_append_lies w hgd s x t ho B e i z size bytes ht hi hz hsize hby hzs hsz v rows.length rows.flatten hs how.2 ⟨g0, 0, none⟩ 1 c row hx (by rw [Nat.one_mul]; exact hrow)
    (by have := World.news_of_block hblk; simpa using this) h1 (by omega) (by unfold maxLen; omega) (by
      have : (rows.length + 1) * bytes ≤ 4194305 * 4096 := Nat.mul_le_mul (by omega) hbytes
      omega) hbase w.heap.size rfl ?_
  intro g cap w' hown hgr hat hlt
  refine h g cap w' ⟨?_, ?_⟩ hgr hat hlt
  · intro r hr
    rcases List.mem_append.1 hr with hr | hr
    · exact how.1 r hr
    · rw [List.mem_singleton.1 hr]
      exact hrow
  · have e1 : (rows ++ [row]).length = rows.length + 1 := by simp
    have e2 : (rows ++ [row]).flatten = rows.flatten ++ row := by simp
    rw [e1, e2]
    exact hown
theorem cell_past {w : World} {p : Addr} {v : Value} {o : Obj} (h : p.block < w.heap.size) (k : w.cell? p = some v) : (w.alloc o).cell? p = some v :=
  (((Below.refl w.heap.size w).alloc (Nat.le_refl _) o).cell h).trans k
theorem grown_undrew {w w' : World} {r : Option Nat} (h : w.drew.grownBy w' r) : w.grownBy w' r := ⟨h.os, h.tape, h.output, h.size, h.block⟩
theorem Ow.drew_ {w : World} {B size : Nat} {e : TypeId} {v : Value} {rows : List (List Value)} (h : Ow w B e size v rows) : Ow w.drew B e size v rows := h
end Go.Proofs.YtcjbjpobpefehaaGreatDoor

namespace Go.Proofs.YtcjbjpobpefehaaGreatDoor
open Go.RowKit

structure Debt where
  From : Int
  To : Int
  Amt : Int
def Debt.cells (d : Debt) : List Value := [.int .i64 d.From, .int .i64 d.To, .int .i64 d.Amt]
theorem Debt.uni (l : List Debt) : ∀ r ∈ l.map Debt.cells, r.length = 3 := by
  intro r hr
  obtain ⟨d, _, rfl⟩ := List.mem_map.1 hr
  rfl
theorem Debt.of_flat {cs : List Value} (h0 : flat [true, true, true] cs) : ∃ d : Debt, cs = d.cells ∧ True := by
  obtain ⟨a0, cs0, e0, h1⟩ := flat_i h0
  obtain ⟨a1, cs1, e1, h2⟩ := flat_i h1
  obtain ⟨a2, cs2, e2, h3⟩ := flat_i h2
  have e3 := flat_nil h3
  subst e0 e1 e2 e3
  exact ⟨⟨a0, a1, a2⟩, rfl, trivial⟩
theorem Debt.rd {w : World} {B : Nat} {A : Option Addr} {l : List Debt} (h : Rd w B 3 A (l.map Debt.cells)) {k : Nat} (hk : k < l.length) :
    ∃ b off, A = some ⟨b, off, none⟩ ∧ b < B ∧ w.cell? ⟨b, off + k * 3, none⟩ = some (.int .i64 l[k].From) ∧ w.cell? ⟨b, off + k * 3 + 1, none⟩ = some (.int .i64 l[k].To) ∧ w.cell? ⟨b, off + k * 3 + 2, none⟩ = some (.int .i64 l[k].Amt) := by
  obtain ⟨b, off, e, hb, hc⟩ := h.2 (by rw [List.length_map]; omega)
  have hk' : (l.map Debt.cells)[k]? = some l[k].cells := by rw [List.getElem?_map, List.getElem?_eq_getElem hk]; rfl
  exact ⟨b, off, e, hb, hc k _ 0 _ hk' rfl, hc k _ 1 _ hk' rfl, hc k _ 2 _ hk' rfl⟩
theorem Debt.fl (l : List Debt) {k : Nat} (hk : k < l.length) : (l.map Debt.cells).flatten[k * 3]? = some (.int .i64 l[k].From) ∧ (l.map Debt.cells).flatten[k * 3 + 1]? = some (.int .i64 l[k].To) ∧ (l.map Debt.cells).flatten[k * 3 + 2]? = some (.int .i64 l[k].Amt) := by
  have hk' : (l.map Debt.cells)[k]? = some l[k].cells := by rw [List.getElem?_map, List.getElem?_eq_getElem hk]; rfl
  exact ⟨flatten_get _ 3 (Debt.uni l) k 0 _ hk' (by omega), flatten_get _ 3 (Debt.uni l) k 1 _ hk' (by omega), flatten_get _ 3 (Debt.uni l) k 2 _ hk' (by omega)⟩
end Go.Proofs.YtcjbjpobpefehaaGreatDoor

namespace Go.Proofs.YtcjbjpobpefehaaGreatDoor
open Go.RowKit Go.Deep

/-- each block whose type is none of 'ts' is as it was -/
def Fr (ts : List TypeId) (w w' : World) : Prop := ∀ (k : Nat) (cs : Array Value) (t : TypeId), w.heap[k]? = some (.cells cs t (0, 0)) → t ∉ ts → w'.heap[k]? = some (.cells cs t (0, 0))
section
variable {ts ts' : List TypeId} {w w' w'' : World}
theorem Fr.refl (ts : List TypeId) (w : World) : Fr ts w w := fun _ _ _ h _ => h
theorem Fr.trans (h : Fr ts w w') (h' : Fr ts w' w'') : Fr ts w w'' := fun k cs t h1 h2 => h' k cs t (h k cs t h1 h2) h2
theorem Fr.mono (h : Fr ts w w') (hs : ∀ t, t ∈ ts → t ∈ ts') : Fr ts' w w' := fun k cs t h1 h2 => h k cs t h1 (fun e => h2 (hs t e))
theorem Fr.below (h : Fr ts w w') (hb : Below w'.heap.size w' w'') : Fr ts w w'' := fun k cs t h1 h2 => by
  have h3 := h k cs t h1 h2
  exact (hb.block k (Array.getElem?_eq_some_iff.1 h3).1).trans h3
theorem Fr.of_below (hb : Below w.heap.size w w') : Fr ts w w' := (Fr.refl ts w).below hb
theorem Fr.alloc (h : Fr ts w w') (o : Obj) : Fr ts w (w'.alloc o) := h.below ((Below.refl _ _).alloc (Nat.le_refl _) o)
theorem Fr.drew (h : Fr ts w w') : Fr ts w w'.drew := h
theorem Fr.undrew (h : Fr ts w.drew w') : Fr ts w w' := h
theorem Fr.drewN (h : Fr ts w w') (n : Nat) : Fr ts w (w'.drewN n) := h
/-- a store into a block of one of the types -/
theorem Fr.set (h : Fr ts w w') {X i : Nat} {t : TypeId} {cs : Array Value} (hX : w'.heap[X]? = some (.cells cs t (0, 0))) (ht : t ∈ ts) (u : Value) : Fr ts w (w'.setCell ⟨X, i, none⟩ u) := fun k cs' t' h1 h2 => by
  have h3 := h k cs' t' h1 h2
  refine heap_far (a := ⟨X, i, none⟩) ?_ h3
  rintro rfl
  rw [hX] at h3
  injection h3 with h3
  injection h3 with _ h3
  exact h2 (h3 ▸ ht)
/-- a store into a block that was not there at the start -/
theorem Fr.setNew (h : Fr ts w w') {X i : Nat} (hX : w.heap.size ≤ X) (u : Value) : Fr ts w (w'.setCell ⟨X, i, none⟩ u) := fun k cs' t' h1 h2 => by
  have h3 := h k cs' t' h1 h2
  refine heap_far (a := ⟨X, i, none⟩) ?_ h3
  have := (Array.getElem?_eq_some_iff.1 h1).1
  show k ≠ X
  omega
/-- a slice of one of the types has grown -/
theorem Fr.grown (h : Fr ts w w') {B n : Nat} {e : TypeId} {v : Value} {rows : List (List Value)} (how : Ow w' B e n v rows) (he : e ∈ ts) (hg : w'.grownBy w'' v.ownBlock) : Fr ts w w'' := fun k cs t h1 h2 => by
  have h3 := h k cs t h1 h2
  refine heap_grown hg ?_ h3
  refine how.ne_ h3 ?_
  rintro rfl
  exact h2 he
theorem Fr.ow {B n : Nat} {e : TypeId} {v : Value} {rows : List (List Value)} (h : Fr ts w w') (how : Ow w B e n v rows) (he : e ∉ ts) : Ow w' B e n v rows := by
  refine ⟨how.1, how.2.1, ?_⟩
  rcases how.2.2 with hn | ⟨g, cap, cur, rfl, hg, hh, r⟩
  · exact .inl hn
  · exact .inr ⟨g, cap, cur, rfl, hg, h _ _ _ hh he, r⟩
theorem Fr.box {k : Nat} {cs : Array Value} {t : TypeId} (h : Fr ts w w') (hk : w.heap[k]? = some (.cells cs t (0, 0))) (ht : t ∉ ts) : w'.heap[k]? = some (.cells cs t (0, 0)) := h k cs t hk ht
end
/-- two owned slices of different types never share a block -/
theorem Ow.apart_ {w w' : World} {B B' n n' : Nat} {e e' : TypeId} {v v' : Value} {rows rows' : List (List Value)} (h : Ow w B e n v rows) (h' : Ow w B' e' n' v' rows') (hne : e ≠ e') (hg : w.grownBy w' v'.ownBlock) : Ow w' B e n v rows := by
  refine h.grown hg ?_
  cases hv : v.ownBlock with
  | none => exact Or.inl rfl
  | some k =>
    refine Or.inr ?_
    rcases h.2.2 with ⟨rfl, _⟩ | ⟨g, cap, cur, rfl, _, hh, _⟩
    · simp [Value.ownBlock] at hv
    · have : g = k := by simpa [Value.ownBlock] using hv
      subst this
      exact h'.ne_ hh (fun x => hne x.symm)
/-- a store into a block of another type -/
theorem Ow.aside {w : World} {B X n i : Nat} {e t : TypeId} {v : Value} {cs : Array Value} {rows : List (List Value)} (h : Ow w B e n v rows) (hx : w.heap[X]? = some (.cells cs t (0, 0))) (hne : e ≠ t) (u : Value) : Ow (w.setCell ⟨X, i, none⟩ u) B e n v rows :=
  h.grown (grown_set (World.grownBy.refl w (some X)) i u) (Or.inr (h.ne_ hx hne).symm)
theorem six_set {w : World} {X : Nat} {t : TypeId} {a b c d e f : Value} (h : w.heap[X]? = some (.cells #[a, b, c, d, e, f] t (0, 0))) (u : Value) :
    (w.setCell ⟨X, 0, none⟩ u).heap[X]? = some (.cells #[u, b, c, d, e, f] t (0, 0)) ∧ (w.setCell ⟨X, 1, none⟩ u).heap[X]? = some (.cells #[a, u, c, d, e, f] t (0, 0)) ∧ (w.setCell ⟨X, 2, none⟩ u).heap[X]? = some (.cells #[a, b, u, d, e, f] t (0, 0)) ∧
      (w.setCell ⟨X, 3, none⟩ u).heap[X]? = some (.cells #[a, b, c, u, e, f] t (0, 0)) ∧ (w.setCell ⟨X, 4, none⟩ u).heap[X]? = some (.cells #[a, b, c, d, u, f] t (0, 0)) ∧ (w.setCell ⟨X, 5, none⟩ u).heap[X]? = some (.cells #[a, b, c, d, e, u] t (0, 0)) :=
  ⟨heap_set h, heap_set h, heap_set h, heap_set h, heap_set h, heap_set h⟩
theorem heap_far' {w : World} {X i n : Nat} {u : Value} {x : Obj} (h : n ≠ X) (k : w.heap[n]? = some x) : (w.setCell ⟨X, i, none⟩ u).heap[n]? = some x := heap_far (a := ⟨X, i, none⟩) h k
end Go.Proofs.YtcjbjpobpefehaaGreatDoor

namespace Go.Proofs.YtcjbjpobpefehaaGreatDoor

section
variable {P : Program} {md : Region.Mode} {ops0 : Array Oper} {o : Oper} {Q : Exit → Act → World → Prop} {S : World → Prop}
def waitsAll2 (md : Region.Mode) (ops0 : Array Oper) (o : Oper) : Bool :=
  ((List.range ops0.size).all fun i => (o.after.toList.any fun e => Region.binds md e && (e.on == i)) ||
    (o.after.toList.any fun e => Region.binds md e && match ops0[e.on]? with | some x => x.after.toList.any fun e' => Region.binds md e' && (e'.on == i) | none => false)) &&
  o.after.toList.all fun e => !Region.binds md e || decide (e.on < ops0.size)
def Closed (md : Region.Mode) (ops0 : Array Oper) (listed : Array Bool) : Prop := ∀ (j : Nat) (x : Oper), ops0[j]? = some x → listed.getD j false = true → ∀ e ∈ x.after, Region.binds md e = true → listed.getD e.on false = true
theorem waits2_all (h : waitsAll2 md ops0 o = true) {listed : Array Bool} (hc : Closed md ops0 listed) (hd : ∀ e ∈ o.after, Region.binds md e = true → listed.getD e.on false = true) : ∀ i, i < ops0.size → listed.getD i false = true := by
  intro i hi
  simp only [waitsAll2, Bool.and_eq_true] at h
  have h1 := List.all_eq_true.1 h.1 i (List.mem_range.2 hi)
  simp only [Bool.or_eq_true] at h1
  rcases h1 with h1 | h1
  · obtain ⟨e, he, h2⟩ := List.any_eq_true.1 h1
    simp only [Bool.and_eq_true, beq_iff_eq] at h2
    obtain ⟨hb, rfl⟩ := h2
    exact hd e (by simpa using he) hb
  · obtain ⟨e, he, h2⟩ := List.any_eq_true.1 h1
    simp only [Bool.and_eq_true] at h2
    obtain ⟨hb, h3⟩ := h2
    cases hx : ops0[e.on]? with
    | none => rw [hx] at h3; cases h3
    | some x =>
      rw [hx] at h3
      obtain ⟨e', he', h4⟩ := List.any_eq_true.1 h3
      simp only [Bool.and_eq_true, beq_iff_eq] at h4
      obtain ⟨hb', rfl⟩ := h4
      exact hc e.on x hx (hd e (by simpa using he) hb) e' (by simpa using he') hb'
theorem waits2_lt (h : waitsAll2 md ops0 o = true) : ∀ e ∈ o.after, Region.binds md e = true → e.on < ops0.size := fun e he hb => by
  simp only [waitsAll2, Bool.and_eq_true] at h
  have := List.all_eq_true.1 h.2 e (by simpa using he)
  simpa [hb] using this
theorem closed_start : Closed md ops0 (Array.replicate ops0.size false) := fun j x hx hl => by
  have hj := (Array.getElem?_eq_some_iff.1 hx).1
  simp [Array.getD_eq_getD_getElem?, hj] at hl
theorem closed_step {listed : Array Bool} (hs : listed.size = ops0.size) (hc : Closed md ops0 listed) {i : Nat} (hi : i ∈ Region.ready md ops0 listed) : Closed md ops0 (listed.setIfInBounds i true) := by
  obtain ⟨_, y, hy, hall⟩ := mem_ready.1 hi
  have his := (Array.getElem?_eq_some_iff.1 hy).1
  have up : ∀ k, listed.getD k false = true → (listed.setIfInBounds i true).getD k false = true := fun k hk => by
    simp only [Array.getD_eq_getD_getElem?] at hk ⊢
    rw [Array.getElem?_setIfInBounds]
    split
    · split <;> simp_all
    · exact hk
  intro j x hx hl e he hb
  by_cases hj : i = j
  · subst hj
    rw [hy] at hx
    cases hx
    exact up _ (hall e he hb)
  · have hl' : listed.getD j false = true := by
      simp only [Array.getD_eq_getD_getElem?] at hl ⊢
      rwa [Array.getElem?_setIfInBounds_ne hj] at hl
    exact up _ (hc j x hx hl' e he hb)
theorem ready_push2 (hw : waitsAll2 md ops0 o = true) (hb : backOnly md ops0 = true) {listed : Array Bool} (hs : listed.size = ops0.size) (hc : Closed md ops0 listed) {j : Nat} :
    j ∈ Region.ready md (ops0.push o) (listed.push false) ↔ (j ∈ Region.ready md ops0 listed ∨ (j = ops0.size ∧ ∀ i, i < ops0.size → listed.getD i false = true)) := by
  have h2 := waits2_lt hw
  rw [mem_ready, mem_ready]
  by_cases hj : j < ops0.size
  · rw [push_getD (by omega), ops_push_lt hj]
    constructor
    · rintro ⟨ha, x, hx, hall⟩
      refine .inl ⟨ha, x, hx, fun e he hbe => ?_⟩
      have := hall e he hbe
      have hlt : e.on < ops0.size := by
        have h3 := List.all_eq_true.1 hb j (List.mem_range.2 hj)
        simp only [hx] at h3
        have h4 := List.all_eq_true.1 h3 e (by simpa using he)
        simp only [hbe, Bool.not_true, Bool.false_or, decide_eq_true_eq] at h4
        omega
      rwa [push_getD (by omega)] at this
    · rintro (⟨ha, x, hx, hall⟩ | ⟨rfl, _⟩)
      · refine ⟨ha, x, hx, fun e he hbe => ?_⟩
        have hlt : e.on < ops0.size := by
          have h3 := List.all_eq_true.1 hb j (List.mem_range.2 hj)
          simp only [hx] at h3
          have h4 := List.all_eq_true.1 h3 e (by simpa using he)
          simp only [hbe, Bool.not_true, Bool.false_or, decide_eq_true_eq] at h4
          omega
        rw [push_getD (by omega)]
        exact hall e he hbe
      · omega
  · by_cases he : j = ops0.size
    · subst he
      constructor
      · rintro ⟨_, x, hx, hall⟩
        have hx' : x = o := by simpa using hx.symm
        subst hx'
        refine .inr ⟨rfl, waits2_all hw hc fun e he hbe => ?_⟩
        have := hall e he hbe
        rwa [push_getD (by have := h2 e he hbe; omega)] at this
      · rintro (⟨_, x, hx, _⟩ | ⟨_, hall⟩)
        · simp at hx
        · refine ⟨by rw [← hs]; exact push_getD_last, o, by simp, fun e he hbe => ?_⟩
          have := h2 e he hbe
          rw [push_getD (by omega)]
          exact hall _ this
    · constructor
      · rintro ⟨_, x, hx, _⟩
        rw [Array.getElem?_eq_none (by simp; omega)] at hx
        cases hx
      · rintro (⟨_, x, hx, _⟩ | ⟨rfl, _⟩)
        · rw [Array.getElem?_eq_none (by omega)] at hx
          cases hx
        · exact absurd rfl he
theorem wpAny_last_step2 (hw : waitsAll2 md ops0 o = true) (hb : backOnly md ops0 = true) {listed : Array Bool} (hs : listed.size = ops0.size) (hc : Closed md ops0 listed) (hr : Region.ready md ops0 listed = []) {a : Act} {w : World}
    (h : lastQ P (ops0.push o) o Q .normal a w) (f : Nat) : wpAny P md (ops0.push o) Q (f + 1) (listed.push false) a w := by
  have hall := all_listed hb hs hr
  have hend : Region.ready md (ops0.push o) ((listed.push false).setIfInBounds ops0.size true) = [] := by
    refine List.eq_nil_iff_forall_not_mem.2 fun j hj => ?_
    obtain ⟨h1, x, hx, _⟩ := mem_ready.1 hj
    have hjs : j < ops0.size + 1 := by
      have := (Array.getElem?_eq_some_iff.1 hx).1
      simpa using this
    rw [← hs] at h1 hjs
    by_cases hjl : j = listed.size
    · subst hjl
      simp [Array.getD_eq_getD_getElem?] at h1
    · have hjlt : j < listed.size := by omega
      have h3 := hall j (by omega)
      simp [Array.getD_eq_getD_getElem?, Array.getElem_push, hjlt, Ne.symm hjl, Nat.lt_succ_of_lt hjlt] at h1 h3
      rw [h3] at h1
      cases h1
  refine ⟨fun h0 => ?_, fun i hi => ?_⟩
  · have : ops0.size ∈ Region.ready md (ops0.push o) (listed.push false) := (ready_push2 hw hb hs hc).2 (.inr ⟨rfl, hall⟩)
    rw [h0] at this
    cases this
  · rcases (ready_push2 hw hb hs hc).1 hi with hi | ⟨rfl, _⟩
    · rw [hr] at hi
      cases hi
    · have hstep := h (fun a' w' => wpAny P md (ops0.push o) Q f ((listed.push false).setIfInBounds ops0.size true) a' w') (fun a' w' hq => by
        cases f with
        | zero => exact ⟨hend, hq⟩
        | succ f => exact ⟨fun _ => hq, by rw [hend]; simp⟩)
      unfold wpOp
      simp only [Array.getElem?_push_size]
      split
      · rename_i hwd
        rw [if_pos hwd] at hstep
        exact .inl hstep
      · rename_i hwd
        rw [if_neg hwd] at hstep
        exact hstep
theorem wpAny_of_last2 (hg : noGuards ops0 = true) (hw : waitsAll2 md ops0 o = true) (hb : backOnly md ops0 = true) : ∀ (f : Nat) (listed : Array Bool) (a : Act) (w : World), listed.size = ops0.size → Closed md ops0 listed →
    wpAnyH P md ops0 (lastQ P (ops0.push o) o Q) S f listed a w → wpAny P md (ops0.push o) Q (f + 1) (listed.push false) a w
  | 0, listed, a, w, hs, hc, h => wpAny_last_step2 hw hb hs hc h.1 h.2 0
  | f + 1, listed, a, w, hs, hc, h => by
    by_cases hr : Region.ready md ops0 listed = []
    · exact wpAny_last_step2 hw hb hs hc hr (h.1 hr) (f + 1)
    · obtain ⟨j, hj⟩ := List.exists_mem_of_ne_nil _ hr
      have hnot : ¬ ∀ i, i < ops0.size → listed.getD i false = true := fun hall => by
        obtain ⟨h1, x, hx, _⟩ := mem_ready.1 hj
        have hjs := (Array.getElem?_eq_some_iff.1 hx).1
        have := hall j hjs
        rw [getD_any (by omega) false true, h1] at this
        cases this
      refine ⟨fun h0 => ?_, fun i hi => ?_⟩
      · have := (ready_push2 hw hb hs hc).2 (.inl hj)
        rw [h0] at this
        cases this
      · rcases (ready_push2 hw hb hs hc).1 hi with hi | ⟨_, hall⟩
        · have hstep := h.2 i hi
          obtain ⟨_, x, hx, _⟩ := mem_ready.1 hi
          have his := (Array.getElem?_eq_some_iff.1 hx).1
          have hgx : x.guard = none := by
            have := List.all_eq_true.1 hg x (by
              have hm : x ∈ ops0 := Array.mem_of_getElem? hx
              simpa using hm)
            simpa using this
          have hset : (listed.push false).setIfInBounds i true = (listed.setIfInBounds i true).push false := by
            apply Array.ext
            · simp
            · intro k h1 h2
              simp only [Array.size_setIfInBounds, Array.size_push] at h1
              by_cases hk : k < listed.size
              · rw [Array.getElem_push, dif_pos (by simpa using hk)]
                rw [Array.getElem_setIfInBounds, Array.getElem_setIfInBounds, Array.getElem_push, dif_pos hk]
                simp
                omega
              · have : k = listed.size := by omega
                subst this
                have hne : i ≠ listed.size := by omega
                simp [Array.getElem_push, hne]
          have key : ∀ a' w', (S w' ∧ wpAnyH P md ops0 (lastQ P (ops0.push o) o Q) S f (listed.setIfInBounds i true) a' w') → wpAny P md (ops0.push o) Q (f + 1) ((listed.push false).setIfInBounds i true) a' w' := fun a' w' h' => by
            rw [hset]
            exact wpAny_of_last2 hg hw hb f _ a' w' (by simpa using hs) (closed_step hs hc hi) h'.2
          unfold wpOp at hstep ⊢
          rw [ops_push_lt his]
          simp only [hx] at hstep ⊢
          have hwd : ∀ y : Nat → Option Bool, Region.wanted x y = true := fun y => by simp [Region.wanted, hgx]
          rw [if_pos (hwd _)] at hstep ⊢
          rcases hstep with hstep | ⟨h1, h2⟩
          · exact .inl (upon_Q key (fun _ _ _ h => h) (fun h => h) hstep)
          · exact .inr ⟨h1, h2⟩
        · exact absurd hall hnot
theorem wp_region_last2 {ops : Array Oper} {id : Nat} {a : Act} {w : World} (he : ops = ops0.push o) (hm : P.follows .mixedOrders = true) (hg : noGuards ops0 = true) (hw : waitsAll2 .any ops0 o = true) (hb : backOnly .any ops0 = true)
    (hS : S w.drew) (h : S w.drew → wpAnyH P .any ops0 (lastQ P ops o Q) S ops0.size (Array.replicate ops0.size false) a w.drew) : (Code.region id ops true).wp P Q a w := by
  subst he
  refine wp_region_any hm ?_
  have := wpAny_of_last2 hg hw hb ops0.size (Array.replicate ops0.size false) a w.drew (by simp) closed_start (h hS)
  rw [Array.size_push, Array.replicate_succ]
  exact this
end
theorem wp_region_lastL2 {P : Program} {o : Oper} {Q : Exit → Act → World → Prop} {S : World → Prop} {l : List Oper} {id : Nat} {a : Act} {w : World} (ho : l.getLast? = some o) (hm : P.follows .mixedOrders = true) (hg : noGuards l.dropLast.toArray = true) (hw : waitsAll2 .any l.dropLast.toArray o = true) (hb : backOnly .any l.dropLast.toArray = true)
    (hS : S w.drew) (h : S w.drew → wpAnyH P .any l.dropLast.toArray (lastQ P l.toArray o Q) S l.dropLast.toArray.size (Array.replicate l.dropLast.toArray.size false) a w.drew) : (Code.region id l.toArray true).wp P Q a w := by
  refine wp_region_last2 (S := S) (ops0 := l.dropLast.toArray) (o := o) ?_ hm hg hw hb hS h
  have hne : l ≠ [] := fun e => by subst e; cases ho
  have h1 := List.dropLast_concat_getLast hne
  have h2 : l.getLast hne = o := by rw [List.getLast?_eq_some_getLast hne] at ho; injection ho
  rw [h2] at h1
  rw [List.push_toArray, h1]
end Go.Proofs.YtcjbjpobpefehaaGreatDoor

namespace Go.Proofs.YtcjbjpobpefehaaGreatDoor
open Go.RowKit

structure Line where
  Kind : Int
  Ch : Int
  Amt : Int
def Line.cells (d : Line) : List Value := [.int .i64 d.Kind, .int .i64 d.Ch, .int .i64 d.Amt]
theorem Line.uni (l : List Line) : ∀ r ∈ l.map Line.cells, r.length = 3 := by
  intro r hr
  obtain ⟨d, _, rfl⟩ := List.mem_map.1 hr
  rfl
theorem Line.of_flat {cs : List Value} (h0 : flat [true, true, true] cs) : ∃ d : Line, cs = d.cells ∧ True := by
  obtain ⟨a0, cs0, e0, h1⟩ := flat_i h0
  obtain ⟨a1, cs1, e1, h2⟩ := flat_i h1
  obtain ⟨a2, cs2, e2, h3⟩ := flat_i h2
  have e3 := flat_nil h3
  subst e0 e1 e2 e3
  exact ⟨⟨a0, a1, a2⟩, rfl, trivial⟩
theorem Line.rd {w : World} {B : Nat} {A : Option Addr} {l : List Line} (h : Rd w B 3 A (l.map Line.cells)) {k : Nat} (hk : k < l.length) :
    ∃ b off, A = some ⟨b, off, none⟩ ∧ b < B ∧ w.cell? ⟨b, off + k * 3, none⟩ = some (.int .i64 l[k].Kind) ∧ w.cell? ⟨b, off + k * 3 + 1, none⟩ = some (.int .i64 l[k].Ch) ∧ w.cell? ⟨b, off + k * 3 + 2, none⟩ = some (.int .i64 l[k].Amt) := by
  obtain ⟨b, off, e, hb, hc⟩ := h.2 (by rw [List.length_map]; omega)
  have hk' : (l.map Line.cells)[k]? = some l[k].cells := by rw [List.getElem?_map, List.getElem?_eq_getElem hk]; rfl
  exact ⟨b, off, e, hb, hc k _ 0 _ hk' rfl, hc k _ 1 _ hk' rfl, hc k _ 2 _ hk' rfl⟩
theorem Line.fl (l : List Line) {k : Nat} (hk : k < l.length) : (l.map Line.cells).flatten[k * 3]? = some (.int .i64 l[k].Kind) ∧ (l.map Line.cells).flatten[k * 3 + 1]? = some (.int .i64 l[k].Ch) ∧ (l.map Line.cells).flatten[k * 3 + 2]? = some (.int .i64 l[k].Amt) := by
  have hk' : (l.map Line.cells)[k]? = some l[k].cells := by rw [List.getElem?_map, List.getElem?_eq_getElem hk]; rfl
  exact ⟨flatten_get _ 3 (Line.uni l) k 0 _ hk' (by omega), flatten_get _ 3 (Line.uni l) k 1 _ hk' (by omega), flatten_get _ 3 (Line.uni l) k 2 _ hk' (by omega)⟩
end Go.Proofs.YtcjbjpobpefehaaGreatDoor

namespace Go.Proofs.YtcjbjpobpefehaaGreatDoor
open Go

def numOf (s : List UInt8) : Int := (tnum s).getD 0
def numOk (s : List UInt8) : Bool := (tnum s).isSome
theorem num_some {s : List UInt8} {n : Int} (h : tnum s = some n) : numOf s = n ∧ numOk s = true := by simp [numOf, numOk, h]
theorem num_none {s : List UInt8} (h : tnum s = none) : numOf s = 0 ∧ numOk s = false := by simp [numOf, numOk, h]
theorem num_of {s : List UInt8} (h : numOk s = true) : numB (numOf s) = true ∧ numL (numOf s) = s := by
  unfold numOk at h
  cases k : tnum s with
  | none => rw [k] at h; cases h
  | some n => rw [(num_some k).1]; exact tnum_iff.1 k
theorem num_at {n : Int} (h : numB n = true) : numOf (numL n) = n ∧ numOk (numL n) = true := num_some (tnum_num h)
theorem numOf_in (s : List UInt8) : -1125899906842624 ≤ numOf s ∧ numOf s ≤ 1125899906842624 := by
  cases k : tnum s with
  | none => rw [(num_none k).1]; omega
  | some n => rw [(num_some k).1]; exact numB_iff.1 (tnum_iff.1 k).1
theorem atoiAll_tnum {s : List UInt8} {n : Int} (h : tnum s = some n) : Lib.atoiAll s = .ok n := by
  obtain ⟨h1, h2⟩ := tnum_iff.1 h
  have hl : s.length ≤ 17 := by rw [← h2]; exact numL_len n
  rw [Lib.atoiAll_short s (by omega), ← h2, numL_in (numB_iff.1 h1), atoi_itoa]
  rfl
theorem num_hit {s : List UInt8} {v : Int} (h : Lib.atoiAll s = .ok v) (e : numL v = s) : numOf s = v ∧ numOk s = true := by
  refine num_some (tnum_of ?_ e)
  rintro rfl
  cases h
theorem num_miss {s : List UInt8} {v : Int} (h : Lib.atoiAll s = .ok v) (e : numL v ≠ s) : numOf s = 0 ∧ numOk s = false := by
  refine num_none ?_
  cases k : tnum s with
  | none => rfl
  | some n =>
    have h1 := atoiAll_tnum k
    rw [h] at h1
    injection h1 with h1
    subst h1
    exact absurd (tnum_iff.1 k).2 e
theorem num_bad {s : List UInt8} (h : ∀ v, Lib.atoiAll s ≠ .ok v) : numOf s = 0 ∧ numOk s = false := by
  refine num_none ?_
  cases k : tnum s with
  | none => rfl
  | some n => exact absurd (atoiAll_tnum k) (h n)
/-- the reference's way: digits, then the text once more -/
theorem num_up_hit {s : List UInt8} {n : Int} (hs : s ≠ []) (e : numL n = s) : numOf s = n ∧ numOk s = true := num_some (tnum_of hs e)
theorem num_up_miss {s : List UInt8} {c : UInt8} {r : List UInt8} {m : Nat} (hs : s = c :: r) (hc : c ≠ 45) (hd : Lib.decFrom 0 s = some m) (e : numL (m : Int) ≠ s) : numOf s = 0 ∧ numOk s = false := by
  refine num_none ?_
  cases k : tnum s with
  | none => rfl
  | some n =>
    obtain ⟨h1, h2⟩ := tnum_plain hs hc k
    rw [hd] at h2
    injection h2 with h2
    have : n = (m : Int) := by omega
    subst this
    exact absurd (tnum_iff.1 k).2 e
theorem num_down_miss {r : List UInt8} {m : Nat} (hd : Lib.decFrom 0 r = some m) (e : numL (-(m : Int)) ≠ 45 :: r) : numOf (45 :: r) = 0 ∧ numOk (45 :: r) = false := by
  refine num_none ?_
  cases k : tnum (45 :: r) with
  | none => rfl
  | some n =>
    obtain ⟨h1, h2⟩ := tnum_minus k
    rw [hd] at h2
    injection h2 with h2
    have : n = -(m : Int) := by omega
    subst this
    exact absurd (tnum_iff.1 k).2 e
theorem num_char {s : List UInt8} {c : UInt8} {r : List UInt8} (hs : s = c :: r) (hc : c ≠ 45) {k : Nat} {b : UInt8} (hb : s[k]? = some b) (hd : Lib.digitVal b = none) : numOf s = 0 ∧ numOk s = false := by
  refine num_none ?_
  cases h : tnum s with
  | none => rfl
  | some n =>
    obtain ⟨_, h2⟩ := tnum_plain hs hc h
    rw [decFrom_bad hb hd] at h2
    cases h2
theorem num_char_minus {r : List UInt8} {k : Nat} {b : UInt8} (hb : r[k]? = some b) (hd : Lib.digitVal b = none) : numOf (45 :: r) = 0 ∧ numOk (45 :: r) = false := by
  refine num_none ?_
  cases h : tnum (45 :: r) with
  | none => rfl
  | some n =>
    obtain ⟨_, h2⟩ := tnum_minus h
    rw [decFrom_bad hb hd] at h2
    cases h2
theorem num_long {s : List UInt8} (h : 17 < s.length) : numOf s = 0 ∧ numOk s = false := num_none (tnum_long h)
theorem num_empty : numOf [] = 0 ∧ numOk [] = false := num_none rfl
end Go.Proofs.YtcjbjpobpefehaaGreatDoor

namespace Go.Proofs.YtcjbjpobpefehaaGreatDoor
open Go.RowKit

/-! ### Plain -/
def accB (k c : Int) : Bool := if inB k 6 8 = true then inB c 1 99 else inB k 1 5 && decide (c = 0)
def lessB (k c k' c' : Int) : Bool := decide (k < k') || (decide (k = k') && decide (c < c'))
def rangeB (n : Int) : Bool := inB n (-1125899906842624) 1125899906842624
def lineAt (l : List Line) (i : Nat) : Bool :=
  match l[i]? with
  | some x => accB x.Kind x.Ch && (!(x.Amt == 0)) && rangeB x.Amt && (decide (i = 0) || match l[i - 1]? with | some p => lessB p.Kind p.Ch x.Kind x.Ch | none => false)
  | none => true
def allTo (k : Nat) (p : Nat → Bool) : Bool := (List.range k).all p
theorem allTo_succ (k : Nat) (p : Nat → Bool) : allTo (k + 1) p = (allTo k p && p k) := by
  unfold allTo
  rw [List.range_succ, List.all_append]
  simp
theorem allTo_iff {k : Nat} {p : Nat → Bool} : allTo k p = true ↔ ∀ i, i < k → p i = true := by
  simp [allTo, List.all_eq_true]
theorem allTo_false {k i : Nat} {p : Nat → Bool} (hi : i < k) (h : p i = false) : allTo k p = false := by
  cases hu : allTo k p
  · rfl
  · rw [allTo_iff.1 hu i hi] at h
    cases h
def lineSum (l : List Line) : Int := l.foldl (fun s x => s + x.Amt) 0
theorem lineSum_succ (l : List Line) {k : Nat} (hk : k < l.length) : lineSum (l.take (k + 1)) = lineSum (l.take k) + l[k].Amt := foldl_take_succ l _ _ hk
def linesB (l : List Line) : Bool := allTo l.length (lineAt l) && decide (lineSum l = 0)
theorem linesB_bad {l : List Line} {k : Nat} (hk : k < l.length) (h : lineAt l k = false) : linesB l = false := by
  unfold linesB
  rw [allTo_false hk h]
  rfl
theorem lineAt_ok {l : List Line} {k : Nat} (hk : k < l.length) (h : lineAt l k = true) : accB l[k].Kind l[k].Ch = true ∧ (l[k].Amt == 0) = false ∧ (-1125899906842624 ≤ l[k].Amt ∧ l[k].Amt ≤ 1125899906842624) := by
  have e : l[k]? = some l[k] := List.getElem?_eq_getElem hk
  unfold lineAt at h
  rw [e] at h
  simp only [Bool.and_eq_true, Bool.not_eq_true'] at h
  exact ⟨h.1.1.1, h.1.1.2, inB_iff.1 h.1.2⟩
/-- What a line at its place is: with the one ahead of it. -/
theorem lineAt_first {l : List Line} (hk : 0 < l.length) : lineAt l 0 = (accB l[0].Kind l[0].Ch && !(l[0].Amt == 0) && rangeB l[0].Amt) := by
  have e : l[0]? = some l[0] := List.getElem?_eq_getElem hk
  unfold lineAt
  rw [e]
  simp
theorem lineAt_next {l : List Line} {j : Nat} (hk : j + 1 < l.length) (hj : j < l.length) : lineAt l (j + 1) = (accB l[j + 1].Kind l[j + 1].Ch && !(l[j + 1].Amt == 0) && rangeB l[j + 1].Amt && lessB l[j].Kind l[j].Ch l[j + 1].Kind l[j + 1].Ch) := by
  have e : l[j + 1]? = some l[j + 1] := List.getElem?_eq_getElem hk
  have e2 : l[j + 1 - 1]? = some l[j] := List.getElem?_eq_getElem hj
  unfold lineAt
  rw [e, e2]
  simp
set_option maxHeartbeats 1000000 in
theorem s_l02Less (k c k' c' : Int) (w : World) :
    Calls Tryz.prog 124 #[.agg #[.int .i64 k, .int .i64 c], .agg #[.int .i64 k', .int .i64 c']] w fun e w' => e = .returned (.bool (lessB k c k' c')) ∧ Below w.heap.size w w' := by
  by_cases h1 : k < k'
  · have HE := Lib.hid (show lessB k c k' c' = true by simp [lessB, h1])
    go_enter Tryz.func124, Tryz.ntmps124
    go_wp2_with fail
    go_ret
    exact ⟨ret_bool (by rw [HE.out]), by (first | ((repeat' first | (with_reducible (first | exact Below.refl _ _ | assumption | refine Below.setCell ?_ ?_ _ | refine Below.alloc ?_ ?_ _ | refine Below.drew ?_ | refine below_drewN ?_ _ | refine Below.trans ?_ (Below.mono (by assumption) ?_))) | omega | (simp; omega) | (simp; done)); done) | (repeat' first | exact Below.refl _ _ | assumption | refine Below.setCell ?_ (by first | omega | (simp; omega) | (simp; done)) _ | refine Below.alloc ?_ (by first | omega | (simp; omega) | (simp; done)) _ | refine Below.drew ?_ | refine below_drewN ?_ _ | refine Below.trans ?_ (Below.mono (by assumption) (by first | omega | (simp; omega) | (simp; done)))))⟩
  · have h1' : decide (k < k') = false := decide_eq_false h1
    cases h2 : (k == k')
    · have HE := Lib.hid (show lessB k c k' c' = false by simp only [beq_eq_false_iff_ne] at h2; simp [lessB, h1, h2])
      go_enter Tryz.func124, Tryz.ntmps124
      go_wp2_with fail
      go_ret
      exact ⟨ret_bool (by rw [HE.out]), by (first | ((repeat' first | (with_reducible (first | exact Below.refl _ _ | assumption | refine Below.setCell ?_ ?_ _ | refine Below.alloc ?_ ?_ _ | refine Below.drew ?_ | refine below_drewN ?_ _ | refine Below.trans ?_ (Below.mono (by assumption) ?_))) | omega | (simp; omega) | (simp; done)); done) | (repeat' first | exact Below.refl _ _ | assumption | refine Below.setCell ?_ (by first | omega | (simp; omega) | (simp; done)) _ | refine Below.alloc ?_ (by first | omega | (simp; omega) | (simp; done)) _ | refine Below.drew ?_ | refine below_drewN ?_ _ | refine Below.trans ?_ (Below.mono (by assumption) (by first | omega | (simp; omega) | (simp; done)))))⟩
    · by_cases h3 : c < c'
      · have HE := Lib.hid (show lessB k c k' c' = true by simp only [beq_iff_eq] at h2; simp [lessB, h2, h3])
        go_enter Tryz.func124, Tryz.ntmps124
        go_wp2_with fail
        go_ret
        exact ⟨ret_bool (by rw [HE.out]), by (first | ((repeat' first | (with_reducible (first | exact Below.refl _ _ | assumption | refine Below.setCell ?_ ?_ _ | refine Below.alloc ?_ ?_ _ | refine Below.drew ?_ | refine below_drewN ?_ _ | refine Below.trans ?_ (Below.mono (by assumption) ?_))) | omega | (simp; omega) | (simp; done)); done) | (repeat' first | exact Below.refl _ _ | assumption | refine Below.setCell ?_ (by first | omega | (simp; omega) | (simp; done)) _ | refine Below.alloc ?_ (by first | omega | (simp; omega) | (simp; done)) _ | refine Below.drew ?_ | refine below_drewN ?_ _ | refine Below.trans ?_ (Below.mono (by assumption) (by first | omega | (simp; omega) | (simp; done)))))⟩
      · have HE := Lib.hid (show lessB k c k' c' = false by simp only [beq_iff_eq] at h2; simp [lessB, h2]; omega)
        have h3' : decide (c < c') = false := decide_eq_false h3
        go_enter Tryz.func124, Tryz.ntmps124
        go_wp2_with fail
        go_ret
        exact ⟨ret_bool (by rw [HE.out]), by (first | ((repeat' first | (with_reducible (first | exact Below.refl _ _ | assumption | refine Below.setCell ?_ ?_ _ | refine Below.alloc ?_ ?_ _ | refine Below.drew ?_ | refine below_drewN ?_ _ | refine Below.trans ?_ (Below.mono (by assumption) ?_))) | omega | (simp; omega) | (simp; done)); done) | (repeat' first | exact Below.refl _ _ | assumption | refine Below.setCell ?_ (by first | omega | (simp; omega) | (simp; done)) _ | refine Below.alloc ?_ (by first | omega | (simp; omega) | (simp; done)) _ | refine Below.drew ?_ | refine below_drewN ?_ _ | refine Below.trans ?_ (Below.mono (by assumption) (by first | omega | (simp; omega) | (simp; done)))))⟩
end Go.Proofs.YtcjbjpobpefehaaGreatDoor

namespace Go.Proofs.YtcjbjpobpefehaaGreatDoor
open Go.ChangeShapes Go.WideShapes Go.ChangeAt Go.RowKit Go.Deep

theorem step_append_none {P : Program} {w : World} {ops : Array Oper} {o : Oper} {a : Act} {K : Act → World → Prop} {Q : Exit → Act → World → Prop} {E : Prop} (hgd : o.guard = none) (s x : Operand) (t : TypeId)
    (ho : o.op = .call { callee := .builtin .append, args := #[s, x], argTypes := #[t, t] })
    (e : TypeId) (i : TypeInfo) (ht : P.underlying t = some (.slice e)) (hi : P.info? e = some i)
    (A0 : Option Addr) (n c0 : Nat) (hn : n ≤ c0) (A : Option Addr) (c : Nat) (hs : a.eval s = .slice A0 n c0) (hx : a.eval x = .slice A 0 c)
    (h : K (a.put o.dst (.slice A0 n c0)) w) : if Region.wanted o (yielded ops a.tmps) = true then Oper.wp P o a w K Q else E := by
  have hw : Region.wanted o (yielded ops a.tmps) = true := by simp [Region.wanted, hgd]
  rw [if_pos hw]
  have hrun : (Builtin.append_ #[t, t] o.type #[.slice A0 n c0, .slice A 0 c]).run P w = .ok (.slice A0 n c0) w := by
    cases A <;> cases A0 <;> simp [Builtin.append_, run_underlying ht, sizeOf, typeInfo, hi, Builtin.lenOf, Builtin.firstCells, loadCells, loadCellsFrom, storeCells, hn]
  unfold Oper.wp
  simp [execOp, ho, resolve, invoke, builtin, hs, hx, hrun, Result.andThen]
  exact h
theorem step_appN {P : Program} {w : World} {ops : Array Oper} {o : Oper} {a : Act} {K : Act → World → Prop} {Q : Exit → Act → World → Prop} {E : Prop} (hgd : o.guard = none) (s x : Operand) (t : TypeId)
    (ho : o.op = .call { callee := .builtin .append, args := #[s, x], argTypes := #[t, t] })
    (B : Nat) (e : TypeId) (i : TypeInfo) (z : Value) (size bytes : Nat) (ht : P.underlying t = some (.slice e)) (hi : P.info? e = some i) (hz : i.zero = some z)
    (hsize : i.size = size) (hby : i.bytes = bytes) (hzs : z.cells.size = size) (hsz : 0 < size)
    (A0 : Option Addr) (c0 : Nat) (rows : List (List Value)) (n : Nat) (hn : n = rows.length) (hs : a.eval s = .slice A0 n c0) (how : Ow w B e size (.slice A0 n c0) rows)
    (A : Option Addr) (c : Nat) (rows2 : List (List Value)) (m : Nat) (hm : m = rows2.length) (hx : a.eval x = .slice A m c) (B2 : Nat) (hr : Rd w B2 size A rows2) (h1 : ∀ u ∈ rows2.flatten, u.oneCell' = true)
    (hlen : rows.length + rows2.length ≤ 4194304) (hbytes : bytes ≤ 4096) (hbase : B ≤ w.heap.size)
    (h : ∀ A' cap w', Ow w' B e size (.slice A' (n + m) cap) (rows ++ rows2) → Below B w w' → w.grownBy w' (Value.slice A0 n c0).ownBlock → K (a.put o.dst (.slice A' (n + m) cap)) w') : if Region.wanted o (yielded ops a.tmps) = true then Oper.wp P o a w K Q else E := by
  subst hn
  subst hm
  obtain ⟨A1, cap1, hv, _, hcap, _⟩ := how.form
  simp only [Value.slice.injEq] at hv
  obtain ⟨rfl, _, rfl⟩ := hv
  by_cases hn : 0 < rows2.length
  · obtain ⟨b, off, rfl, hb, hc⟩ := hr.flat hsz hn
    refine step_append_lies w hgd s x t ho B e i z size bytes ht hi hz hsize hby hzs hsz (.slice A0 rows.length c0) rows.length rows.flatten hs how.2 ⟨b, off, none⟩ rows2.length c rows2.flatten hx (flatten_size rows2 size hr.1)
      (fun j u hu => by
        have := hc j u hu
        rwa [show (⟨b, off, none⟩ : Addr).add j = ⟨b, off + j, none⟩ by unfold Addr.add; split <;> simp_all]) h1 hn (by simp only [maxLen]; omega) (by
        have : (rows.length + rows2.length) * bytes ≤ 4194304 * 4096 := Nat.mul_le_mul hlen hbytes
        omega) hbase w.heap.size rfl ?_
    intro g cap w' hown hgr _ _
    refine h _ cap w' ⟨?_, ?_⟩ ((Below.refl B w).grown hgr hbase (fun k e => (how.block k e).1)) hgr
    · intro r hr'
      rcases List.mem_append.1 hr' with hr' | hr'
      · exact how.1 r hr'
      · exact hr.1 r hr'
    · rw [List.length_append, List.flatten_append]
      exact hown
  · have h0 : rows2 = [] := List.eq_nil_of_length_eq_zero (by omega)
    subst h0
    exact step_append_none hgd s x t ho e i ht hi A0 rows.length c0 hcap A c hs hx (h A0 c0 w (by rw [List.append_nil]; exact how) (Below.refl _ _) (World.grownBy.refl _ _))
end Go.Proofs.YtcjbjpobpefehaaGreatDoor

namespace Go.Proofs.YtcjbjpobpefehaaGreatDoor
open Go.RowKit

def debtOk (d : Debt) : Bool := isChanB d.From && isChanB d.To && !(d.From == d.To) && inB d.Amt 1 1000000000
theorem debtOk_cases (d : Debt) : (isChanB d.From = false ∧ debtOk d = false) ∨ (isChanB d.From = true ∧ isChanB d.To = false ∧ debtOk d = false) ∨ (isChanB d.From = true ∧ isChanB d.To = true ∧ (d.From == d.To) = true ∧ debtOk d = false) ∨
    (isChanB d.From = true ∧ isChanB d.To = true ∧ (d.From == d.To) = false ∧ inB d.Amt 1 1000000000 = false ∧ debtOk d = false) ∨ (isChanB d.From = true ∧ isChanB d.To = true ∧ (d.From == d.To) = false ∧ inB d.Amt 1 1000000000 = true ∧ debtOk d = true) := by
  unfold debtOk
  cases isChanB d.From <;> cases isChanB d.To <;> cases d.From == d.To <;> cases inB d.Amt 1 1000000000 <;> simp
def debtsOk (l : List Debt) : Bool := l.all debtOk && decide (l.length ≤ 60)
theorem debtOk_iff {d : Debt} : debtOk d = true ↔ (1 ≤ d.From ∧ d.From ≤ 99) ∧ (1 ≤ d.To ∧ d.To ≤ 99) ∧ d.From ≠ d.To ∧ 1 ≤ d.Amt ∧ d.Amt ≤ 1000000000 := by
  simp [debtOk, isChanB_iff, inB_iff, and_assoc]
end Go.Proofs.YtcjbjpobpefehaaGreatDoor

namespace Go.Proofs.YtcjbjpobpefehaaGreatDoor
open Go.RowKit
end Go.Proofs.YtcjbjpobpefehaaGreatDoor

namespace Go.Proofs.YtcjbjpobpefehaaGreatDoor
open Go.RowKit
end Go.Proofs.YtcjbjpobpefehaaGreatDoor

namespace Go.Proofs.YtcjbjpobpefehaaGreatDoor
open Go.RowKit

def ledgerB (z : Int) (l : List Line) : Bool := amtB z && decide (l.length ≤ 320) && linesB l
def postingB (z : Int) (l : List Line) : Bool := inB z 1 1125899906842624 && decide (2 ≤ l.length) && decide (l.length ≤ 8) && linesB l
theorem ledgerB_iff {z : Int} {l : List Line} : ledgerB z l = true ↔ (0 ≤ z ∧ z ≤ 1125899906842624) ∧ l.length ≤ 320 ∧ linesB l = true := by
  simp only [ledgerB, Bool.and_eq_true, amtB_iff, decide_eq_true_eq, and_assoc]
theorem postingB_iff {z : Int} {l : List Line} : postingB z l = true ↔ (1 ≤ z ∧ z ≤ 1125899906842624) ∧ 2 ≤ l.length ∧ l.length ≤ 8 ∧ linesB l = true := by
  simp only [postingB, Bool.and_eq_true, inB_iff, decide_eq_true_eq, and_assoc]
theorem linesB_at {l : List Line} (h : linesB l = true) {k : Nat} (hk : k < l.length) : accB l[k].Kind l[k].Ch = true ∧ (l[k].Amt == 0) = false ∧ (-1125899906842624 ≤ l[k].Amt ∧ l[k].Amt ≤ 1125899906842624) := by
  simp only [linesB, Bool.and_eq_true] at h
  exact lineAt_ok hk (allTo_iff.1 h.1 k hk)
end Go.Proofs.YtcjbjpobpefehaaGreatDoor

namespace Go.Proofs.YtcjbjpobpefehaaGreatDoor
open Go

def debtL (d : Debt) : List UInt8 := if debtOk d = true then numL d.From ++ [62] ++ numL d.To ++ [32] ++ numL d.Amt else []
def wordL (k : Int) : List UInt8 :=
  match k.toNat with
  | 1 => [119, 97, 108, 108, 101, 116]
  | 2 => [101, 113, 117, 105, 116, 121]
  | 3 => [105, 110, 99, 111, 109, 101]
  | 4 => [114, 101, 98, 97, 108]
  | 5 => [99, 104, 97, 105, 110]
  | 6 => [108, 111, 99, 97, 108]
  | 7 => [105, 110]
  | 8 => [111, 117, 116]
  | _ => []
theorem wordL_len (k : Int) : (wordL k).length ≤ 6 := by unfold wordL; split <;> simp
def accL (k c : Int) : List UInt8 := if accB k c = true then wordL k ++ (if 0 < c then numL c else []) else []
theorem accL_len (k c : Int) : (accL k c).length ≤ 23 := by
  have := wordL_len k
  have := numL_len c
  unfold accL
  split
  · split <;> simp <;> omega
  · simp
/-- one line of a ledger -/
def rowL (x : Line) : List UInt8 := accL x.Kind x.Ch ++ [32] ++ numL x.Amt ++ [10]
theorem rowL_len (x : Line) : (rowL x).length ≤ 42 := by
  have := accL_len x.Kind x.Ch
  have := numL_len x.Amt
  unfold rowL
  simp
  omega
def rowsL (l : List Line) : List UInt8 := l.foldl (fun s x => s ++ rowL x) []
def ledHead (z : Int) : List UInt8 := [108, 101, 100, 103, 101, 114, 32] ++ numL z ++ [10]
def ledTo (z : Int) (l : List Line) : List UInt8 := l.foldl (fun s x => s ++ rowL x) (ledHead z)
def ledgerL (z : Int) (l : List Line) : List UInt8 := if ledgerB z l = true then ledTo z l else []
/-- one line of a posting -/
def itemL (x : Line) : List UInt8 := [32] ++ accL x.Kind x.Ch ++ [58] ++ numL x.Amt
theorem itemL_len (x : Line) : (itemL x).length ≤ 42 := by
  have := accL_len x.Kind x.Ch
  have := numL_len x.Amt
  unfold itemL
  simp
  omega
def postHead (z : Int) : List UInt8 := [112, 111, 115, 116, 32] ++ numL z
def postTo (z : Int) (l : List Line) : List UInt8 := l.foldl (fun s x => s ++ itemL x) (postHead z)
def postingL (z : Int) (l : List Line) : List UInt8 := if postingB z l = true then postTo z l else []
theorem ledTo_succ (z : Int) (l : List Line) {k : Nat} (hk : k < l.length) : ledTo z (l.take (k + 1)) = ledTo z (l.take k) ++ rowL l[k] := foldl_take_succ l _ _ hk
theorem postTo_succ (z : Int) (l : List Line) {k : Nat} (hk : k < l.length) : postTo z (l.take (k + 1)) = postTo z (l.take k) ++ itemL l[k] := foldl_take_succ l _ _ hk
theorem foldl_len {f : Line → List UInt8} {B : Nat} (hf : ∀ x, (f x).length ≤ B) : ∀ (l : List Line) (s : List UInt8), (l.foldl (fun s x => s ++ f x) s).length ≤ s.length + B * l.length
  | [], s => by simp
  | x :: l, s => by
    have h1 := foldl_len hf l (s ++ f x)
    have h2 := hf x
    simp only [List.foldl_cons, List.length_cons, List.length_append] at h1 ⊢
    rw [Nat.mul_add]
    omega
theorem ledTo_len (z : Int) (l : List Line) : (ledTo z l).length ≤ 25 + 42 * l.length := by
  have h1 := foldl_len rowL_len l (ledHead z)
  have h2 := numL_len z
  unfold ledTo
  unfold ledHead at h1 ⊢
  simp only [List.length_append, List.length_cons, List.length_nil] at h1 h2 ⊢
  omega
theorem postTo_len (z : Int) (l : List Line) : (postTo z l).length ≤ 22 + 42 * l.length := by
  have h1 := foldl_len itemL_len l (postHead z)
  have h2 := numL_len z
  unfold postTo
  unfold postHead at h1 ⊢
  simp only [List.length_append, List.length_cons, List.length_nil] at h1 h2 ⊢
  omega
end Go.Proofs.YtcjbjpobpefehaaGreatDoor

namespace Go.Proofs.YtcjbjpobpefehaaGreatDoor
open Go

theorem digit_in {b : UInt8} {d : Nat} (h : Lib.digitVal b = some d) : 48 ≤ b.toNat ∧ b.toNat ≤ 57 := by
  unfold Lib.digitVal at h
  split at h
  · assumption
  · cases h
theorem dec_in {l : List UInt8} {n : Nat} (h : Lib.decFrom 0 l = some n) {b : UInt8} (hb : b ∈ l) : 48 ≤ b.toNat ∧ b.toNat ≤ 57 := by
  obtain ⟨j, hj, e⟩ := List.mem_iff_getElem.1 hb
  obtain ⟨d, hd⟩ := Lib.digit_of_decFrom l 0 n h j b (by rw [List.getElem?_eq_getElem hj, e])
  exact digit_in hd
theorem num_chars {n : Int} {b : UInt8} (hb : b ∈ numL n) : b.toNat = 45 ∨ (48 ≤ b.toNat ∧ b.toNat ≤ 57) := by
  cases hn : numB n with
  | false =>
    exfalso
    unfold numL at hb
    rw [hn] at hb
    simp at hb
  | true =>
    rcases num_shape hn with ⟨_, h, _⟩ | ⟨_, r, e, h⟩
    · exact .inr (dec_in h hb)
    · rw [e] at hb
      rcases List.mem_cons.1 hb with rfl | hb
      · exact .inl rfl
      · exact .inr (dec_in h hb)
theorem num_no {n : Int} {b : UInt8} (h : b = 10 ∨ b = 32 ∨ b = 58 ∨ b = 62) : b ∉ numL n := fun k => by
  have := num_chars k
  rcases h with rfl | rfl | rfl | rfl <;> simp at this
theorem num_head {n : Int} (h1 : 0 ≤ n) (h2 : n ≤ 1125899906842624) : ∃ b r, numL n = b :: r ∧ 48 ≤ b.toNat ∧ b.toNat ≤ 57 := by
  have hn : numB n = true := numB_iff.2 ⟨by omega, h2⟩
  rcases num_shape hn with ⟨_, h, b, r, e, _⟩ | ⟨_, _⟩
  · exact ⟨b, r, e, dec_in h (by rw [e]; simp)⟩
  · omega
theorem word_chars {k : Int} {b : UInt8} (hb : b ∈ wordL k) : 97 ≤ b.toNat ∧ b.toNat ≤ 122 := by
  have key : ∀ l : List UInt8, (l.all fun b => decide (97 ≤ b.toNat ∧ b.toNat ≤ 122)) = true → b ∈ l → 97 ≤ b.toNat ∧ b.toNat ≤ 122 := fun l hl hm => by
    simpa using List.all_eq_true.1 hl b hm
  unfold wordL at hb
  split at hb <;> first | exact key _ (by decide) hb | simp at hb
theorem accB_iff {k c : Int} : accB k c = true ↔ ((6 ≤ k ∧ k ≤ 8) ∧ 1 ≤ c ∧ c ≤ 99) ∨ ((1 ≤ k ∧ k ≤ 5) ∧ c = 0) := by
  unfold accB
  by_cases h : inB k 6 8 = true
  · rw [if_pos h, inB_iff]
    rw [inB_iff] at h
    omega
  · rw [if_neg h]
    rw [inB_iff] at h
    simp only [Bool.and_eq_true, inB_iff, decide_eq_true_eq]
    omega
theorem acc_chars {k c : Int} {b : UInt8} (hb : b ∈ accL k c) : (97 ≤ b.toNat ∧ b.toNat ≤ 122) ∨ b.toNat = 45 ∨ (48 ≤ b.toNat ∧ b.toNat ≤ 57) := by
  unfold accL at hb
  split at hb
  · rcases List.mem_append.1 hb with hb | hb
    · exact .inl (word_chars hb)
    · split at hb
      · exact .inr (num_chars hb)
      · simp at hb
  · simp at hb
theorem acc_no {k c : Int} {b : UInt8} (h : b = 10 ∨ b = 32 ∨ b = 58 ∨ b = 62) : b ∉ accL k c := fun j => by
  have := acc_chars j
  rcases h with rfl | rfl | rfl | rfl <;> simp at this
theorem acc_ne {k c : Int} (h : accB k c = true) : accL k c ≠ [] := by
  unfold accL
  rw [if_pos h]
  have hk : k = 1 ∨ k = 2 ∨ k = 3 ∨ k = 4 ∨ k = 5 ∨ k = 6 ∨ k = 7 ∨ k = 8 := by
    have := accB_iff.1 h
    omega
  rcases hk with rfl | rfl | rfl | rfl | rfl | rfl | rfl | rfl <;> simp [wordL]
theorem accL_low {k : Int} (h : 1 ≤ k ∧ k ≤ 5) : accL k 0 = wordL k := by
  unfold accL
  rw [if_pos (accB_iff.2 (.inr ⟨h, rfl⟩)), if_neg (by omega), List.append_nil]
theorem accL_high {k c : Int} (h : 6 ≤ k ∧ k ≤ 8) (hc : 1 ≤ c ∧ c ≤ 99) : accL k c = wordL k ++ numL c := by
  unfold accL
  rw [if_pos (accB_iff.2 (.inl ⟨h, hc⟩)), if_pos (by omega)]
theorem accL_inj {k c k' c' : Int} (h : accB k c = true) (h' : accB k' c' = true) (e : accL k c = accL k' c') : k = k' ∧ c = c' := by
  rcases accB_iff.1 h with ⟨hk, hc⟩ | ⟨hk, rfl⟩ <;> rcases accB_iff.1 h' with ⟨hk', hc'⟩ | ⟨hk', rfl⟩
  · rw [accL_high hk hc, accL_high hk' hc'] at e
    have a : k = 6 ∨ k = 7 ∨ k = 8 := by omega
    have a' : k' = 6 ∨ k' = 7 ∨ k' = 8 := by omega
    have fin : numL c = numL c' → c = c' := numL_inj (numB_iff.2 (by omega)) (numB_iff.2 (by omega))
    rcases a with rfl | rfl | rfl <;> rcases a' with rfl | rfl | rfl <;> simp [wordL] at e <;> exact ⟨rfl, fin e⟩
  · obtain ⟨b, r, hb, h1, h2⟩ := num_head (n := c) (by omega) (by omega)
    rw [accL_high hk hc, accL_low hk', hb] at e
    have a : k = 6 ∨ k = 7 ∨ k = 8 := by omega
    have a' : k' = 1 ∨ k' = 2 ∨ k' = 3 ∨ k' = 4 ∨ k' = 5 := by omega
    rcases a with rfl | rfl | rfl <;> rcases a' with rfl | rfl | rfl | rfl | rfl <;> simp [wordL] at e
    obtain ⟨rfl, _⟩ := e
    simp at h2
  · obtain ⟨b, r, hb, h1, h2⟩ := num_head (n := c') (by omega) (by omega)
    rw [accL_high hk' hc', accL_low hk, hb] at e
    have a : k = 1 ∨ k = 2 ∨ k = 3 ∨ k = 4 ∨ k = 5 := by omega
    have a' : k' = 6 ∨ k' = 7 ∨ k' = 8 := by omega
    rcases a with rfl | rfl | rfl | rfl | rfl <;> rcases a' with rfl | rfl | rfl <;> simp [wordL] at e
    obtain ⟨rfl, _⟩ := e
    simp at h2
  · rw [accL_low hk, accL_low hk'] at e
    have a : k = 1 ∨ k = 2 ∨ k = 3 ∨ k = 4 ∨ k = 5 := by omega
    have a' : k' = 1 ∨ k' = 2 ∨ k' = 3 ∨ k' = 4 ∨ k' = 5 := by omega
    rcases a with rfl | rfl | rfl | rfl | rfl <;> rcases a' with rfl | rfl | rfl | rfl | rfl <;> simp [wordL] at e <;> exact ⟨rfl, rfl⟩
/-- what a text says of an account -/
def AccIs (s : List UInt8) (k c : Int) (ok : Bool) : Prop :=
  (ok = true ∧ accB k c = true ∧ accL k c = s) ∨ (ok = false ∧ k = 0 ∧ c = 0 ∧ ∀ k' c', accB k' c' = true → accL k' c' ≠ s)
theorem AccIs.of {k c k' c' : Int} {ok : Bool} (h : AccIs (accL k c) k' c' ok) (hb : accB k c = true) : ok = true ∧ k' = k ∧ c' = c := by
  rcases h with ⟨rfl, h1, h2⟩ | ⟨_, _, _, h1⟩
  · exact ⟨rfl, accL_inj h1 hb h2⟩
  · exact absurd rfl (h1 k c hb)
/-! ### debts -/
theorem debtL_eq {d : Debt} (h : debtOk d = true) : debtL d = numL d.From ++ 62 :: (numL d.To ++ 32 :: numL d.Amt) := by
  unfold debtL
  rw [if_pos h]
  simp
theorem debt_nums {d : Debt} (h : debtOk d = true) : numB d.From = true ∧ numB d.To = true ∧ numB d.Amt = true := by
  have := debtOk_iff.1 h
  exact ⟨numB_iff.2 (by omega), numB_iff.2 (by omega), numB_iff.2 (by omega)⟩
theorem debt_parts {d : Debt} (h : debtOk d = true) : parts 32 (debtL d) = [numL d.From ++ 62 :: numL d.To, numL d.Amt] := by
  rw [debtL_eq h, show numL d.From ++ 62 :: (numL d.To ++ 32 :: numL d.Amt) = (numL d.From ++ 62 :: numL d.To) ++ 32 :: numL d.Amt by simp, parts_mid, parts_none (num_no (by simp))]
  simp only [List.mem_append, List.mem_cons, not_or]
  exact ⟨num_no (by simp), by decide, num_no (by simp)⟩
theorem debt_peers (d : Debt) : parts 62 (numL d.From ++ 62 :: numL d.To) = [numL d.From, numL d.To] := by
  rw [parts_mid _ (num_no (by simp)), parts_none (num_no (by simp))]
theorem debt_words {d : Debt} (h : debtOk d = true) : parts 32 (Lib.replace (debtL d) [62] [32] 1) = [numL d.From, numL d.To, numL d.Amt] := by
  rw [debtL_eq h, replace_mid (num_no (by simp)) (by decide), parts_mid _ (num_no (by simp)), parts_mid _ (num_no (by simp)), parts_none (num_no (by simp))]
/-! ### ledgers and postings -/
theorem foldl_flat {α : Type} (f : α → List UInt8) : ∀ (l : List α) (s : List UInt8), l.foldl (fun s x => s ++ f x) s = s ++ (l.map f).flatten
  | [], s => by simp
  | x :: l, s => by
    rw [List.foldl_cons, foldl_flat f l]
    simp
def rowC (x : Line) : List UInt8 := accL x.Kind x.Ch ++ 32 :: numL x.Amt
def itemC (x : Line) : List UInt8 := accL x.Kind x.Ch ++ 58 :: numL x.Amt
theorem rowL_eq (x : Line) : rowL x = rowC x ++ [10] := by simp [rowL, rowC]
theorem itemL_eq (x : Line) : itemL x = 32 :: itemC x := by simp [itemL, itemC]
theorem rowC_no (x : Line) : (10 : UInt8) ∉ rowC x := by
  unfold rowC
  simp only [List.mem_append, List.mem_cons, not_or]
  exact ⟨acc_no (by simp), by decide, num_no (by simp)⟩
theorem itemC_no (x : Line) : (32 : UInt8) ∉ itemC x := by
  unfold itemC
  simp only [List.mem_append, List.mem_cons, not_or]
  exact ⟨acc_no (by simp), by decide, num_no (by simp)⟩
theorem rowC_parts (x : Line) : parts 32 (rowC x) = [accL x.Kind x.Ch, numL x.Amt] := by
  unfold rowC
  rw [parts_mid _ (acc_no (by simp)), parts_none (num_no (by simp))]
theorem itemC_parts (x : Line) : parts 58 (itemC x) = [accL x.Kind x.Ch, numL x.Amt] := by
  unfold itemC
  rw [parts_mid _ (acc_no (by simp)), parts_none (num_no (by simp))]
theorem rowC_cut (x : Line) : Lib.cut (rowC x) [32] = (accL x.Kind x.Ch, numL x.Amt, true) := cut_mid (acc_no (by simp))
theorem itemC_cut (x : Line) : Lib.cut (itemC x) [58] = (accL x.Kind x.Ch, numL x.Amt, true) := cut_mid (acc_no (by simp))
theorem lines_parts {α : Type} (f : α → List UInt8) (hf : ∀ x, (10 : UInt8) ∉ f x) : ∀ l : List α, parts 10 (l.map fun x => f x ++ [10]).flatten = l.map f ++ [[]]
  | [] => rfl
  | x :: l => by
    rw [List.map_cons, List.flatten_cons, show f x ++ [10] ++ (l.map fun x => f x ++ [10]).flatten = f x ++ 10 :: (l.map fun x => f x ++ [10]).flatten by simp, parts_mid _ (hf x), lines_parts f hf l]
    rfl
theorem lines_parts_to {α : Type} (f : α → List UInt8) (hf : ∀ x, (10 : UInt8) ∉ f x) (t : List UInt8) : ∀ l : List α, parts 10 ((l.map fun x => f x ++ [10]).flatten ++ t) = l.map f ++ parts 10 t
  | [] => rfl
  | x :: l => by
    rw [List.map_cons, List.flatten_cons, show f x ++ [10] ++ (l.map fun x => f x ++ [10]).flatten ++ t = f x ++ 10 :: ((l.map fun x => f x ++ [10]).flatten ++ t) by simp, parts_mid _ (hf x), lines_parts_to f hf t l]
    rfl
theorem words_parts {α : Type} (f : α → List UInt8) (hf : ∀ x, (32 : UInt8) ∉ f x) : ∀ (l : List α) (y : List UInt8), (32 : UInt8) ∉ y → parts 32 (y ++ (l.map fun x => 32 :: f x).flatten) = y :: l.map f
  | [], y, hy => by simpa using parts_none hy
  | x :: l, y, hy => by
    rw [List.map_cons, List.flatten_cons, List.cons_append, parts_mid _ hy, words_parts f hf l (f x) (hf x)]
    rfl
def ledC (z : Int) : List UInt8 := [108, 101, 100, 103, 101, 114, 32] ++ numL z
theorem led_parts (z : Int) (l : List Line) : parts 10 (ledTo z l) = ledC z :: (l.map rowC ++ [[]]) := by
  unfold ledTo
  rw [foldl_flat, show ledHead z ++ (l.map rowL).flatten = ledC z ++ 10 :: (l.map fun x => rowC x ++ [10]).flatten by
    unfold ledHead ledC
    rw [show rowL = fun x => rowC x ++ [10] from funext rowL_eq]
    simp, parts_mid, lines_parts rowC rowC_no]
  unfold ledC
  simp only [List.mem_append, not_or]
  exact ⟨by decide, num_no (by simp)⟩
theorem ledC_parts (z : Int) : parts 32 (ledC z) = [[108, 101, 100, 103, 101, 114], numL z] := by
  unfold ledC
  rw [show ([108, 101, 100, 103, 101, 114, 32] : List UInt8) ++ numL z = [108, 101, 100, 103, 101, 114] ++ 32 :: numL z by simp, parts_mid _ (by decide), parts_none (num_no (by simp))]
theorem ledC_trim (z : Int) : Lib.trimPrefix (ledC z) [108, 101, 100, 103, 101, 114, 32] = numL z := by
  unfold ledC Lib.trimPrefix Lib.hasPrefix
  simp
theorem post_parts (z : Int) (l : List Line) : parts 32 (postTo z l) = [112, 111, 115, 116] :: numL z :: l.map itemC := by
  unfold postTo
  rw [foldl_flat, show postHead z ++ (l.map itemL).flatten = [112, 111, 115, 116] ++ 32 :: (numL z ++ (l.map fun x => 32 :: itemC x).flatten) by
    unfold postHead
    rw [show itemL = fun x => 32 :: itemC x from funext itemL_eq]
    simp, parts_mid _ (by decide), words_parts itemC itemC_no _ _ (num_no (by simp))]
theorem ledger_nums {z : Int} {l : List Line} (h : ledgerB z l = true) : numB z = true ∧ ∀ x ∈ l, accB x.Kind x.Ch = true ∧ numB x.Amt = true := by
  obtain ⟨h1, _, h3⟩ := ledgerB_iff.1 h
  refine ⟨numB_iff.2 (by omega), fun x hx => ?_⟩
  obtain ⟨k, hk, rfl⟩ := List.mem_iff_getElem.1 hx
  have := linesB_at h3 hk
  exact ⟨this.1, numB_iff.2 this.2.2⟩
theorem posting_nums {z : Int} {l : List Line} (h : postingB z l = true) : numB z = true ∧ ∀ x ∈ l, accB x.Kind x.Ch = true ∧ numB x.Amt = true := by
  obtain ⟨h1, _, _, h3⟩ := postingB_iff.1 h
  refine ⟨numB_iff.2 (by omega), fun x hx => ?_⟩
  obtain ⟨k, hk, rfl⟩ := List.mem_iff_getElem.1 hx
  have := linesB_at h3 hk
  exact ⟨this.1, numB_iff.2 this.2.2⟩
end Go.Proofs.YtcjbjpobpefehaaGreatDoor

namespace Go.Proofs.YtcjbjpobpefehaaGreatDoor
open Go

theorem debtL_inj {d d' : Debt} (h : debtOk d = true) (h' : debtOk d' = true) (e : debtL d = debtL d') : d = d' := by
  obtain ⟨a1, a2, a3⟩ := debt_nums h
  obtain ⟨b1, b2, b3⟩ := debt_nums h'
  have hp := debt_parts h
  rw [e, debt_parts h'] at hp
  simp only [List.cons.injEq, and_true] at hp
  have hq := debt_peers d'
  rw [hp.1, debt_peers d] at hq
  simp only [List.cons.injEq, and_true] at hq
  have c1 := numL_inj a1 b1 hq.1
  have c2 := numL_inj a2 b2 hq.2
  have c3 := numL_inj b3 a3 hp.2
  cases d
  cases d'
  simp_all
/-- what a text says of a debt -/
def DebtIs (s : List UInt8) (d : Debt) (ok : Bool) : Prop :=
  (ok = true ∧ debtOk d = true ∧ debtL d = s) ∨ (ok = false ∧ d = ⟨0, 0, 0⟩ ∧ ∀ d', debtOk d' = true → debtL d' ≠ s)
theorem DebtIs.one {s : List UInt8} {d d' : Debt} {ok ok' : Bool} (h : DebtIs s d ok) (h' : DebtIs s d' ok') : d = d' ∧ ok = ok' := by
  rcases h with ⟨rfl, h1, h2⟩ | ⟨rfl, rfl, h1⟩ <;> rcases h' with ⟨rfl, h3, h4⟩ | ⟨rfl, rfl, h3⟩
  · exact ⟨debtL_inj h1 h3 (h2.trans h4.symm), rfl⟩
  · exact absurd h2 (h3 _ h1)
  · exact absurd h4 (h1 _ h3)
  · exact ⟨rfl, rfl⟩
theorem Line.ext' {x y : Line} (h1 : x.Kind = y.Kind) (h2 : x.Ch = y.Ch) (h3 : x.Amt = y.Amt) : x = y := by
  cases x
  cases y
  simp_all
theorem rowC_inj {x y : Line} (hx : accB x.Kind x.Ch = true ∧ numB x.Amt = true) (hy : accB y.Kind y.Ch = true ∧ numB y.Amt = true) (e : rowC x = rowC y) : x = y := by
  have h := rowC_parts x
  rw [e, rowC_parts y] at h
  simp only [List.cons.injEq, and_true] at h
  have h1 := accL_inj hy.1 hx.1 h.1
  exact Line.ext' h1.1.symm h1.2.symm (numL_inj hy.2 hx.2 h.2).symm
theorem itemC_inj {x y : Line} (hx : accB x.Kind x.Ch = true ∧ numB x.Amt = true) (hy : accB y.Kind y.Ch = true ∧ numB y.Amt = true) (e : itemC x = itemC y) : x = y := by
  have h := itemC_parts x
  rw [e, itemC_parts y] at h
  simp only [List.cons.injEq, and_true] at h
  have h1 := accL_inj hy.1 hx.1 h.1
  exact Line.ext' h1.1.symm h1.2.symm (numL_inj hy.2 hx.2 h.2).symm
theorem map_inj_on {α β : Type} {f : α → β} {P : α → Prop} (hf : ∀ x y, P x → P y → f x = f y → x = y) : ∀ {l l' : List α}, (∀ x ∈ l, P x) → (∀ x ∈ l', P x) → l.map f = l'.map f → l = l'
  | [], [], _, _, _ => rfl
  | [], _ :: _, _, _, e => by simp at e
  | _ :: _, [], _, _, e => by simp at e
  | x :: l, y :: l', h, h', e => by
    simp only [List.map_cons, List.cons.injEq] at e
    rw [hf x y (h x (by simp)) (h' y (by simp)) e.1, map_inj_on hf (fun z hz => h z (by simp [hz])) (fun z hz => h' z (by simp [hz])) e.2]
theorem ledgerL_inj {z z' : Int} {l l' : List Line} (h : ledgerB z l = true) (h' : ledgerB z' l' = true) (e : ledgerL z l = ledgerL z' l') : z = z' ∧ l = l' := by
  unfold ledgerL at e
  rw [if_pos h, if_pos h'] at e
  have hp := led_parts z l
  rw [e, led_parts z' l'] at hp
  simp only [List.cons.injEq] at hp
  have h1 := ledC_parts z'
  rw [hp.1, ledC_parts z] at h1
  simp only [List.cons.injEq, and_true, true_and] at h1
  obtain ⟨n1, n2⟩ := ledger_nums h
  obtain ⟨m1, m2⟩ := ledger_nums h'
  refine ⟨numL_inj n1 m1 h1, ?_⟩
  exact (map_inj_on (P := fun x : Line => accB x.Kind x.Ch = true ∧ numB x.Amt = true) (fun x y => rowC_inj) m2 n2 (List.append_cancel_right hp.2)).symm
theorem postingL_inj {z z' : Int} {l l' : List Line} (h : postingB z l = true) (h' : postingB z' l' = true) (e : postingL z l = postingL z' l') : z = z' ∧ l = l' := by
  unfold postingL at e
  rw [if_pos h, if_pos h'] at e
  have hp := post_parts z l
  rw [e, post_parts z' l'] at hp
  simp only [List.cons.injEq, true_and] at hp
  obtain ⟨n1, n2⟩ := posting_nums h
  obtain ⟨m1, m2⟩ := posting_nums h'
  exact ⟨(numL_inj m1 n1 hp.1).symm, (map_inj_on (P := fun x : Line => accB x.Kind x.Ch = true ∧ numB x.Amt = true) (fun x y => itemC_inj) m2 n2 hp.2).symm⟩
/-- what a text says of a ledger (a posting): F is the text -/
def LedIs (B : Int → List Line → Bool) (F : Int → List Line → List UInt8) (s : List UInt8) (z : Int) (l : List Line) (ok : Bool) : Prop :=
  (ok = true ∧ B z l = true ∧ F z l = s) ∨ (ok = false ∧ z = 0 ∧ l = [] ∧ ∀ z' l', B z' l' = true → F z' l' ≠ s)
theorem LedIs.one {B : Int → List Line → Bool} {F : Int → List Line → List UInt8} (inj : ∀ {z z' l l'}, B z l = true → B z' l' = true → F z l = F z' l' → z = z' ∧ l = l') {s : List UInt8} {z z' : Int} {l l' : List Line} {ok ok' : Bool}
    (h : LedIs B F s z l ok) (h' : LedIs B F s z' l' ok') : z = z' ∧ l = l' ∧ ok = ok' := by
  rcases h with ⟨rfl, h1, h2⟩ | ⟨rfl, rfl, rfl, h1⟩ <;> rcases h' with ⟨rfl, h3, h4⟩ | ⟨rfl, rfl, rfl, h3⟩
  · obtain ⟨a, b⟩ := inj h1 h3 (h2.trans h4.symm)
    exact ⟨a, b, rfl⟩
  · exact absurd h2 (h3 _ _ h1)
  · exact absurd h4 (h1 _ _ h3)
  · exact ⟨rfl, rfl, rfl⟩
end Go.Proofs.YtcjbjpobpefehaaGreatDoor
