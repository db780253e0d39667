/- TxtQ · TxtR · Strs · TxtBR · Cuts · TxtBF · BkRq: each text proves what its theorems say, with no conditions but theirs. -/
import Derived.Test.YtcjbjpobpefehaaGreatDoorRows
import Derived.Test.YtcjbjpobpefehaaGreatDoorBM2
import Derived.Deep.AppendLies
namespace Go.Proofs.YtcjbjpobpefehaaGreatDoor
open Go
theorem words_no {b : UInt8} (hb : b ≠ 32) : ∀ {ws : List (List UInt8)} {w : List UInt8}, b ∉ w → (∀ x ∈ ws, b ∉ x) → b ∉ wordsC w ws
 | [], w, h, _ => by simpa [wordsC] using h
 | x :: ws, w, h, hx => by
  rw [wordsC_cons]
  refine words_no hb ?_ (fun y hy => hx y (by simp [hy]))
  simp only [List.mem_append, List.mem_cons, not_or]
  exact ⟨h, hb, hx x (by simp)⟩
theorem words_cut : ∀ {ws : List (List UInt8)} {w : List UInt8}, (32 : UInt8) ∉ w → (∀ x ∈ ws, (32 : UInt8) ∉ x) → parts 32 (wordsC w ws) = w :: ws := by
 intro ws w h hx
 unfold wordsC
 induction ws generalizing w with
 | nil => simpa using ztb h
 | cons x ws ih =>
  rw [List.map_cons, List.flatten_cons, List.cons_append, zye _ h, ih (hx x (by simp)) (fun y hy => hx y (by simp [hy]))]
theorem nums_no {b : UInt8} (h : b = 10 ∨ b = 32 ∨ b = 58 ∨ b = 62) (ns : List Int) : ∀ x ∈ ns.map numL, b ∉ x := by
 intro x hx
 obtain ⟨n, _, rfl⟩ := List.mem_map.1 hx
 exact num_no h
theorem headC_cut (bt bn bw : Int) : parts 32 (headC bt bn bw) = [bookW, numL bt, numL bn, numL bw] := words_cut (by decide) (nums_no (by simp) _)
theorem chanC_cut (c : Chan) : parts 32 (chanC c) = [chanW, numL c.Id, numL c.Size, numL c.Local, numL c.Remote, numL c.Base, numL c.Ppm, numL c.Score] := words_cut (by decide) (nums_no (by simp) _)
theorem circC_cut (c : Circle) : parts 32 (circC c) = [circW, numL c.Key, numL c.From, numL c.To, numL c.Amt, numL c.Fee] := words_cut (by decide) (nums_no (by simp) _)
theorem htlc_words {b : UInt8} (h : b = 10 ∨ b = 32) (x : Htlc) : ∀ y ∈ [x.Key, x.In, x.Out, x.AmtIn, x.AmtOut].map numL ++ [keptW x.Kept, numL x.Age], b ∉ y := by
 have h4 : b = 10 ∨ b = 32 ∨ b = 58 ∨ b = 62 := by rcases h with h | h <;> simp [h]
 intro y hy
 rcases List.mem_append.1 hy with hy | hy
 ·
  exact nums_no h4 _ y hy
 ·
  rcases List.mem_cons.1 hy with rfl | hy
  ·
   unfold keptW
   rcases h with rfl | rfl <;> split <;> decide
  ·
   rcases List.mem_singleton.1 hy with rfl
   exact num_no h4
theorem htlcC_cut (h : Htlc) : parts 32 (htlcC h) = [htlcW, numL h.Key, numL h.In, numL h.Out, numL h.AmtIn, numL h.AmtOut, keptW h.Kept, numL h.Age] := words_cut (by decide) (htlc_words (by simp) h)
theorem headC_no (bt bn bw : Int) : (10 : UInt8) ∉ headC bt bn bw := words_no (by decide) (by decide) (nums_no (by simp) _)
theorem chanC_no (c : Chan) : (10 : UInt8) ∉ chanC c := words_no (by decide) (by decide) (nums_no (by simp) _)
theorem circC_no (c : Circle) : (10 : UInt8) ∉ circC c := words_no (by decide) (by decide) (nums_no (by simp) _)
theorem htlcC_no (h : Htlc) : (10 : UInt8) ∉ htlcC h := words_no (by decide) (by decide) (htlc_words (by simp) h)
theorem over_cut : parts 32 overW = [overW] := ztb (by decide)
def bookRows (cs : List Chan) (hs : List Htlc) (os : List Circle) : List (List UInt8) := cs.map chanC ++ (hs.map htlcC ++ (os.map circC ++ [overW]))
theorem book_parts (bt bn bw : Int) (cs : List Chan) (hs : List Htlc) (os : List Circle) : parts 10 (bookTo bt bn bw cs hs os ++ (overW ++ [10])) = (headC bt bn bw :: bookRows cs hs os) ++ [[]] := by
 have e : bookTo bt bn bw cs hs os ++ (overW ++ [10]) = headC bt bn bw ++ 10 :: ((cs.map fun x => chanC x ++ [10]).flatten ++ ((hs.map fun x => htlcC x ++ [10]).flatten ++ ((os.map fun x => circC x ++ [10]).flatten ++ (overW ++ [10])))) := by
  unfold bookTo rows10
  rw [show row10 chanC = fun x => chanC x ++ [10] from rfl, show row10 htlcC = fun x => htlcC x ++ [10] from rfl, show row10 circC = fun x => circC x ++ [10] from rfl]
  simp
 rw [e, zye _ (headC_no bt bn bw), zhh chanC chanC_no, zhh htlcC htlcC_no, zhh circC circC_no, show overW ++ [10] = overW ++ 10 :: [] from rfl, zye _ (by decide)]
 simp [bookRows, parts]
theorem chanIx_mem {cs : List Chan} {ch : Int} (h : 0 ≤ chanIx cs ch) : ∃ c ∈ cs, c.Id = ch := by
 unfold chanIx at h
 split at h
 ·
  rename_i i hi
  obtain ⟨hk, hp, _⟩ := List.findIdx?_eq_some_iff_getElem.1 hi
  refine ⟨cs[i], List.getElem_mem hk, ?_⟩
  simpa [notId] using hp
 ·
  omega
structure BookNums (bt bn bw : Int) (cs : List Chan) (hs : List Htlc) (os : List Circle) : Prop where
 t : numB bt = true
 n : numB bn = true
 w : numB bw = true
 c : ∀ c ∈ cs, numB c.Id = true ∧ numB c.Size = true ∧ numB c.Local = true ∧ numB c.Remote = true ∧ numB c.Base = true ∧ numB c.Ppm = true ∧ numB c.Score = true
 h : ∀ h ∈ hs, numB h.Key = true ∧ numB h.In = true ∧ numB h.Out = true ∧ numB h.AmtIn = true ∧ numB h.AmtOut = true ∧ numB h.Age = true
 o : ∀ o ∈ os, numB o.Key = true ∧ numB o.From = true ∧ numB o.To = true ∧ numB o.Amt = true ∧ numB o.Fee = true
theorem book_nums {bt bn bw : Int} {cs : List Chan} {hs : List Htlc} {os : List Circle} (hb : bookB bt bn bw cs hs os = true) : BookNums bt bn bw cs hs os := by
 have f := zwj hb
 have f1 := f.t
 have f2 := f.n
 have f3 := f.w
 have hch : ∀ c ∈ cs, (1 ≤ c.Id ∧ c.Id ≤ 99) ∧ (0 ≤ c.Local ∧ c.Local ≤ 1125899906842624) ∧ (0 ≤ c.Remote ∧ c.Remote ≤ 1125899906842624) ∧ (0 ≤ c.Base ∧ c.Base ≤ 1125899906842624) ∧ (0 ≤ c.Ppm ∧ c.Ppm ≤ 1000000) ∧ (-100 ≤ c.Score ∧ c.Score ≤ 100) ∧ (0 ≤ c.Size ∧ c.Size ≤ 1125899906842624) := by
  intro c hc
  obtain ⟨k, hk, rfl⟩ := List.mem_iff_getElem.1 hc
  have := f.ch k hk
  simp only [chB, Bool.and_eq_true, zvm, zvc, isChanB_iff] at this
  omega
 have hid : ∀ ch, 0 ≤ chanIx cs ch → 1 ≤ ch ∧ ch ≤ 99 := by
  intro ch h
  obtain ⟨c, hc, rfl⟩ := chanIx_mem h
  exact (hch c hc).1
 have hp := f.parts
 simp only [partsB, Bool.and_eq_true] at hp
 have hkey : ∀ x ∈ keysOf hs os, 1 ≤ x ∧ x ≤ 1000000 := by
  intro x hx
  obtain ⟨k, hk, rfl⟩ := List.mem_iff_getElem.1 hx
  have := everyTo_iff.1 hp.2 k hk
  rw [keyAt_eq hk, Bool.and_eq_true, zvc] at this
  exact this.1
 refine ⟨numB_iff.2 (by omega), numB_iff.2 (by omega), numB_iff.2 (by omega), fun c hc => ?_, fun h hh => ?_, fun o ho => ?_⟩
 ·
  have := hch c hc
  simp only [numB_iff]
  omega
 ·
  have h1 := List.all_eq_true.1 hp.1.1 h hh
  simp only [htlcB, twoB, Bool.and_eq_true, zvm, zvc, decide_eq_true_eq] at h1
  have h2 := hid _ h1.1.1.1.1.2
  have h3 := hid _ h1.1.1.1.2
  have h4 := hkey h.Key (by unfold keysOf; exact List.mem_append_left _ (List.mem_map_of_mem hh))
  simp only [numB_iff]
  omega
 ·
  have h1 := List.all_eq_true.1 hp.1.2 o ho
  simp only [circB, twoB, Bool.and_eq_true, zvm, zvc, decide_eq_true_eq] at h1
  have h2 := hid _ h1.1.1.1.2
  have h3 := hid _ h1.1.1.2
  have h4 := hkey o.Key (by unfold keysOf; exact List.mem_append_right _ (List.mem_map_of_mem ho))
  simp only [numB_iff]
  omega
end Go.Proofs.YtcjbjpobpefehaaGreatDoor
namespace Go.Proofs.YtcjbjpobpefehaaGreatDoor
open Go

theorem debtL_inj {d d' : Debt} (h : debtOk d = true) (h' : debtOk d' = true) (e : debtL d = debtL d') : d = d' := by
  obtain ⟨a1, a2, a3⟩ := debt_nums h
  obtain ⟨b1, b2, b3⟩ := debt_nums h'
  have hp := debt_parts h
  rw [e, debt_parts h'] at hp
  simp only [List.cons.injEq, and_true] at hp
  have hq := debt_peers d'
  rw [hp.1, debt_peers d] at hq
  simp only [List.cons.injEq, and_true] at hq
  have c1 := zkd a1 b1 hq.1
  have c2 := zkd a2 b2 hq.2
  have c3 := zkd b3 a3 hp.2
  cases d
  cases d'
  simp_all
def DebtIs (s : List UInt8) (d : Debt) (ok : Bool) : Prop :=
  (ok = true ∧ debtOk d = true ∧ debtL d = s) ∨ (ok = false ∧ d = ⟨0, 0, 0⟩ ∧ ∀ d', debtOk d' = true → debtL d' ≠ s)
theorem DebtIs.one {s : List UInt8} {d d' : Debt} {ok ok' : Bool} (h : DebtIs s d ok) (h' : DebtIs s d' ok') : d = d' ∧ ok = ok' := by
  rcases h with ⟨rfl, h1, h2⟩ | ⟨rfl, rfl, h1⟩ <;> rcases h' with ⟨rfl, h3, h4⟩ | ⟨rfl, rfl, h3⟩
  · exact ⟨debtL_inj h1 h3 (h2.trans h4.symm), rfl⟩
  · exact absurd h2 (h3 _ h1)
  · exact absurd h4 (h1 _ h3)
  · exact ⟨rfl, rfl⟩
theorem map_inj_on {α β : Type} {f : α → β} {P : α → Prop} (hf : ∀ x y, P x → P y → f x = f y → x = y) : ∀ {l l' : List α}, (∀ x ∈ l, P x) → (∀ x ∈ l', P x) → l.map f = l'.map f → l = l'
  | [], [], _, _, _ => rfl
  | [], _ :: _, _, _, e => by simp at e
  | _ :: _, [], _, _, e => by simp at e
  | x :: l, y :: l', h, h', e => by
    simp only [List.map_cons, List.cons.injEq] at e
    rw [hf x y (h x (by simp)) (h' y (by simp)) e.1, map_inj_on hf (fun z hz => h z (by simp [hz])) (fun z hz => h' z (by simp [hz])) e.2]
def LedIs (B : Int → List Line → Bool) (F : Int → List Line → List UInt8) (s : List UInt8) (z : Int) (l : List Line) (ok : Bool) : Prop :=
  (ok = true ∧ B z l = true ∧ F z l = s) ∨ (ok = false ∧ z = 0 ∧ l = [] ∧ ∀ z' l', B z' l' = true → F z' l' ≠ s)
theorem LedIs.one {B : Int → List Line → Bool} {F : Int → List Line → List UInt8} (inj : ∀ {z z' l l'}, B z l = true → B z' l' = true → F z l = F z' l' → z = z' ∧ l = l') {s : List UInt8} {z z' : Int} {l l' : List Line} {ok ok' : Bool}
    (h : LedIs B F s z l ok) (h' : LedIs B F s z' l' ok') : z = z' ∧ l = l' ∧ ok = ok' := by
  rcases h with ⟨rfl, h1, h2⟩ | ⟨rfl, rfl, rfl, h1⟩ <;> rcases h' with ⟨rfl, h3, h4⟩ | ⟨rfl, rfl, rfl, h3⟩
  · obtain ⟨a, b⟩ := inj h1 h3 (h2.trans h4.symm)
    exact ⟨a, b, rfl⟩
  · exact absurd h2 (h3 _ _ h1)
  · exact absurd h4 (h1 _ _ h3)
  · exact ⟨rfl, rfl, rfl⟩
end Go.Proofs.YtcjbjpobpefehaaGreatDoor
namespace Go.Proofs.YtcjbjpobpefehaaGreatDoor
open Go.RowKit Go.Deep
def strC (l : List UInt8) : List Value := [.string ⟨l.toArray⟩]
theorem strs_uni (l : List (List UInt8)) : ∀ r ∈ l.map strC, r.length = 1 := by
 intro r hr
 obtain ⟨x, _, rfl⟩ := List.mem_map.1 hr
 rfl
theorem zkb {w : World} {B : Nat} {A : Option Addr} {l : List (List UInt8)} (h : Rd w B 1 A (l.map strC)) {k : Nat} (hk : k < l.length) :
  ∃ b off, A = some ⟨b, off, none⟩ ∧ b < B ∧ w.cell? ⟨b, off + k, none⟩ = some (.string ⟨l[k].toArray⟩) := by
 obtain ⟨b, off, e, hb, hc⟩ := h.2 (by rw [List.length_map]; omega)
 have hk' : (l.map strC)[k]? = some (strC l[k]) := by rw [List.getElem?_map, List.getElem?_eq_getElem hk]; rfl
 have := hc k _ 0 _ hk' rfl
 rw [Nat.mul_one, Nat.add_zero] at this
 exact ⟨b, off, e, hb, this⟩
theorem strs_flat (l : List (List UInt8)) : (l.map strC).flatten = l.map (fun x : List UInt8 => Value.string ⟨x.toArray⟩) := by
 induction l with
 | nil => rfl
 | cons x l ih =>
  rw [List.map_cons, List.flatten_cons, ih]
  rfl
theorem Ow.whole {w : World} {B size : Nat} {e : TypeId} (rows : List (List Value)) (hu : ∀ r ∈ rows, r.length = size) (hB : B ≤ w.heap.size) (hm : rows.length ≤ maxLen) :
  Ow (w.alloc (.cells rows.flatten.toArray e)) B e size (.slice (some ⟨w.heap.size, 0, none⟩) rows.length rows.length) rows :=
 Fill.ow ⟨rows.flatten.toArray, zxa rfl, by simpa using zkm rows size hu, fun j hj => by simp⟩ hu hB hm
theorem info_str : (Tryz.prog.info? 9).map (fun i => (i.zero, i.size, i.bytes)) = some (some (.string ByteArray.empty), 1, 16) := by kernel_rfl
theorem i_Join (ls : List (List UInt8)) (A : Option Addr) (cap : Nat) (w : World) (h0 : 0 < ls.length) (hN : ls.length ≤ 1000) (hcap : ls.length ≤ cap) (hr : Rd w w.heap.size 1 A (ls.map strC)) (hlen : (Lib.join ls [32]).length ≤ 100000) :
  Calls Tryz.prog 52 #[.slice A ls.length cap, .string ⟨#[32]⟩] w fun e w' => e = .returned (.string ⟨(Lib.join ls [32]).toArray⟩) ∧ Below w.heap.size w w' := by
 obtain ⟨b, off, rfl, hb, _⟩ := zkb hr h0
 have e1 : (ls.map fun l : List UInt8 => (⟨l.toArray⟩ : ByteArray)).map (·.data.toList) = ls := by
  rw [List.map_map]
  conv => rhs; rw [← List.map_id ls]
  exact List.map_congr_left fun x _ => rfl
 have h := Tryz.strings_Join b off cap (ls.map fun l : List UInt8 => (⟨l.toArray⟩ : ByteArray)) ⟨#[32]⟩ w (fun j x hx => by
   rw [List.getElem?_map] at hx
   have hj : j < ls.length := by
    by_cases hj : j < ls.length
    ·
     exact hj
    ·
     rw [List.getElem?_eq_none (by omega)] at hx
     cases hx
   rw [List.getElem?_eq_getElem hj] at hx
   simp only [Option.map_some, Option.some.injEq] at hx
   subst hx
   obtain ⟨b', off', e', _, hc⟩ := zkb hr hj
   simp only [Option.some.injEq, Addr.mk.injEq] at e'
   rw [e'.1, e'.2.1]
   exact hc) hb (by rw [List.length_map]; omega) (by rw [List.length_map]; exact hcap) (by
   rw [e1]
   show (Lib.join ls [32]).length ≤ _
   omega)
 rw [e1, List.length_map] at h
 exact h
theorem zvh (s : ByteArray) (b : UInt8) (w : World) (h : Ld w) (hs : s.size < 4294967281) : Calls Tryz.prog 57 #[.string s, .string ⟨#[b]⟩] w fun e w' =>
  e = .returned (.slice (some ⟨w.heap.size, 0, none⟩) (parts b s.data.toList).length (parts b s.data.toList).length) ∧ Ow w' w.heap.size 9 1 (.slice (some ⟨w.heap.size, 0, none⟩) (parts b s.data.toList).length (parts b s.data.toList).length) ((parts b s.data.toList).map strC) ∧ Below w.heap.size w w' := by
 obtain ⟨m, hm⟩ := h.ml
 refine (Tryz.strings_Split s ⟨#[b]⟩ m w hs hm (Nat.le_refl 1)).mono ?_
 rintro e w' ⟨rfl, rfl⟩
 rw [split_count]
 refine ⟨rfl, ?_, (Below.refl _ _).alloc (Nat.le_refl _) _⟩
 have hl := zjn b s.data.toList
 have hz : s.data.toList.length = s.size := Array.length_toList
 have := Ow.whole (w := w) (B := w.heap.size) (e := 9) ((parts b s.data.toList).map strC) (strs_uni _) (Nat.le_refl _) (by rw [List.length_map]; unfold maxLen; omega)
 rw [strs_flat, List.length_map] at this
 rw [split_row]
 exact this
set_option maxRecDepth 100000 in
set_option maxHeartbeats 1000000 in
theorem zhe (lw : List UInt8) (s : ByteArray) (ns : List Int) (A : Option Addr) (cap : Nat) (w : World) (hld : Ld w) (hs : Str lw s) (hl : ns.length ≤ 16) (hlw : lw.length ≤ 32) (hr : Rd w w.heap.size 1 A (ns.map intCells)) :
  Calls Tryz.prog 19 #[.string s, .slice A ns.length cap] w fun e w' => e = .returned (.string ⟨(numsC lw ns).toArray⟩) ∧ Below w.heap.size w w' := by
 have HLD := Lib.hid hld
 have HR := Lib.hid hr
 have H0 := Lib.hid (show Ow (w.alloc (.cells #[.string s] 9)) w.heap.size 9 1 (.slice (some ⟨w.heap.size, 0, none⟩) ((lw :: (ns.take 0).map numL).length) 1) ((lw :: (ns.take 0).map numL).map strC) by
  rw [hs]
  exact Ow.whole [strC lw] (by simp [strC]) (Nat.le_refl _) (show 1 ≤ maxLen by decide))
 have HJ := Lib.hid (join_words lw (ns.map numL))
 have HB := Lib.hid (zyn lw ns)
 clear hld hr hs
 obtain ⟨i0, hi, hz0, hz1, hz2⟩ := info_parts info_str
 have HI := Lib.hid hi
 have HZ0 := Lib.hid hz0
 have HZ1 := Lib.hid hz1
 have HZ2 := Lib.hid hz2
 clear hi hz0 hz1 hz2
 go_enter Tryz.func19, Tryz.ntmps19
 go_wp2_with fail
 go_loopw [5, 12] (fun v i wr => ∃ (k : Nat) (B : Option Addr) (cp : Nat), k ≤ ns.length ∧ i = .int .i64 k ∧ v = .slice B (lw :: (ns.take k).map numL).length cp ∧ Ow wr w.heap.size 9 1 (.slice B (lw :: (ns.take k).map numL).length cp) ((lw :: (ns.take k).map numL).map strC) ∧ Below w.heap.size w wr) (fun _ i _ => ns.length - (intOf i).toNat)
 case atStart => exact ⟨0, _, _, Nat.zero_le _, rfl, rfl, H0.out, bl_⟩
 case round =>
  obtain ⟨k, B, cp, hk, rfl, rfl, how, hbw⟩ := hrel
  have hbz := hbw.size
  have hrl : (lw :: (ns.take k).map numL).length ≤ 80 := by simp; omega
  have OB := Lib.hid how.block
  have HW := Lib.hid how
  clear how H0
  by_cases hlt : k < ns.length
  ·
   obtain ⟨b, off, rfl, hbB, c0⟩ := ints_rd (HR.out.below hbw) hlt
   have HK := Lib.hid (show lw :: (ns.take (k + 1)).map numL = (lw :: (ns.take k).map numL) ++ [numL ns[k]] by
    rw [List.take_succ_eq_append_getElem hlt, List.map_append]
    rfl)
   obtain ⟨RS, hRS⟩ : ∃ R, (lw :: (ns.take k).map numL) = R := ⟨_, rfl⟩
   rw [hRS] at hrl OB HW HK ⊢
   clear hRS
   go_wp2_with fail
   refine (i_NumText _ _ (HLD.out.below (bl_))).mono ?_
   rintro e w1 ⟨rfl, hb1⟩
   have z1 := hb1.size
   obtain ⟨s1, hs1', hs1⟩ := zhb (numL ns[k])
   rw [hs1']
   clear hs1'
   have hb2 : Below w.heap.size w w1 := bl_
   have HW1 := Lib.hid (HW.out.below hb1)
   have KB := Lib.hid (fun o1 (w6 : World) (hgr : (w1.alloc o1).grownBy w6 (Value.slice B RS.length cp).ownBlock) => (hb2.alloc (by omega) o1).grown hgr (by simp; omega) (fun k e => (OB.out k e).1))
   clear hb1 HW
   go_wp2_with (at_builtin; refine zxj rfl _ _ _ rfl w.heap.size 9 i0 _ 1 16 Tryz.underlying51 HI.out HZ0.out HZ1.out HZ2.out rfl (by decide) (.slice B RS.length cp) (RS.map strC) rfl (HW1.out.alloc _) w1.heap.size 1 [.string s1] 9 rfl (zxa (by first | rfl | (simp; done))) rfl (by simp [Value.oneCell']) (by rw [List.length_map]; omega) (by decide) (by first | omega | (simp; omega) | (simp; done)) ?_; intro g cap' w6 how6 hgr6 hat6 hlt6; rw [List.length_map] at how6; rw [List.length_map]; have hb6 := KB.out _ _ hgr6; have O6 := Lib.hid how6; clear how6 hgr6 hat6)
   go_roundw
   case rel =>
    refine ⟨k + 1, some ⟨g, 0, none⟩, cap', by omega, by go_num, by rw [HK.out, List.length_append]; rfl, ?_, hb6⟩
    rw [HK.out, List.map_append, List.length_append]
    have := O6.out
    rw [hs1.out] at this
    exact this
   case measure => simp [intOf]; omega
  ·
   obtain rfl : k = ns.length := by omega
   rw [List.take_length] at HW ⊢
   clear OB
   have hjl : (Lib.join (lw :: ns.map numL) [32]).length ≤ 100000 := by
    rw [HJ.out]
    have := HB.out
    unfold numsC at this
    omega
   have h0 : 0 < (lw :: ns.map numL).length := by simp
   have hN : (lw :: ns.map numL).length ≤ 1000 := by simp; omega
   have HJ2 := Lib.hid (show Lib.join (lw :: ns.map numL) [32] = numsC lw ns from HJ.out)
   obtain ⟨LS, hLS⟩ : ∃ LS, lw :: ns.map numL = LS := ⟨_, rfl⟩
   rw [hLS] at HW hjl h0 hN HJ2 ⊢
   clear hLS HJ hrl
   have hcap : LS.length ≤ cp := by
    obtain ⟨A', cap'', e1, _, h2, _⟩ := HW.out.form
    rw [List.length_map] at h2
    injection e1 with _ _ e3
    omega
   have HRd := Lib.hid HW.out.rd
   go_wp2_with fail
   refine (i_Join LS _ _ _ h0 hN hcap HRd.out hjl).mono ?_
   rintro e w1 ⟨rfl, hb1⟩
   have z1 := hb1.size
   rw [HJ2.out]
   go_wp2_with fail
   go_ret
   exact ⟨rfl, bl_⟩
end Go.Proofs.YtcjbjpobpefehaaGreatDoor
namespace Go.Proofs.YtcjbjpobpefehaaGreatDoor
open Go
theorem take_map {α β : Type} (f : α → β) (p : β → Bool) (hp : ∀ x, p (f x) = true) : ∀ (l : List α) (r : List β), r.takeWhile p = [] → (l.map f ++ r).takeWhile p = l.map f
 | [], r, h => by simpa using h
 | x :: l, r, h => by
  rw [List.map_cons, List.cons_append, List.takeWhile_cons, if_pos (hp x), take_map f p hp l r h]
def firstIs (w : List UInt8) (row : List UInt8) : Bool := (parts 32 row).headD [] == w
theorem first_chan (c : Chan) (w : List UInt8) : firstIs w (chanC c) = (chanW == w) := by unfold firstIs; rw [chanC_cut]; rfl
theorem first_htlc (c : Htlc) (w : List UInt8) : firstIs w (htlcC c) = (htlcW == w) := by unfold firstIs; rw [htlcC_cut]; rfl
theorem first_circ (c : Circle) (w : List UInt8) : firstIs w (circC c) = (circW == w) := by unfold firstIs; rw [circC_cut]; rfl
theorem first_over (w : List UInt8) : firstIs w overW = (overW == w) := by unfold firstIs; rw [over_cut]; rfl
theorem split_eq {α : Type} {f : α → List UInt8} {w : List UInt8} (hf : ∀ x, firstIs w (f x) = true) {l l' : List α} {r r' : List (List UInt8)} (hr : r.takeWhile (firstIs w) = []) (hr' : r'.takeWhile (firstIs w) = []) (e : l.map f ++ r = l'.map f ++ r') : l.map f = l'.map f ∧ r = r' := by
 have h := congrArg (List.takeWhile (firstIs w)) e
 rw [take_map f _ hf l r hr, take_map f _ hf l' r' hr'] at h
 rw [h] at e
 exact ⟨h, List.append_cancel_left e⟩
theorem chanC_inj {x y : Chan} (hx : numB x.Id = true ∧ numB x.Size = true ∧ numB x.Local = true ∧ numB x.Remote = true ∧ numB x.Base = true ∧ numB x.Ppm = true ∧ numB x.Score = true) (hy : numB y.Id = true ∧ numB y.Size = true ∧ numB y.Local = true ∧ numB y.Remote = true ∧ numB y.Base = true ∧ numB y.Ppm = true ∧ numB y.Score = true) (e : chanC x = chanC y) : x = y := by
 have h := chanC_cut x
 rw [e, chanC_cut y] at h
 simp only [List.cons.injEq, and_true, true_and] at h
 obtain ⟨h1, h2, h3, h4, h5, h6, h7⟩ := h
 have e1 := zkd hy.1 hx.1 h1
 have e2 := zkd hy.2.1 hx.2.1 h2
 have e3 := zkd hy.2.2.1 hx.2.2.1 h3
 have e4 := zkd hy.2.2.2.1 hx.2.2.2.1 h4
 have e5 := zkd hy.2.2.2.2.1 hx.2.2.2.2.1 h5
 have e6 := zkd hy.2.2.2.2.2.1 hx.2.2.2.2.2.1 h6
 have e7 := zkd hy.2.2.2.2.2.2 hx.2.2.2.2.2.2 h7
 cases x
 cases y
 simp_all
theorem circC_inj {x y : Circle} (hx : numB x.Key = true ∧ numB x.From = true ∧ numB x.To = true ∧ numB x.Amt = true ∧ numB x.Fee = true) (hy : numB y.Key = true ∧ numB y.From = true ∧ numB y.To = true ∧ numB y.Amt = true ∧ numB y.Fee = true) (e : circC x = circC y) : x = y := by
 have h := circC_cut x
 rw [e, circC_cut y] at h
 simp only [List.cons.injEq, and_true, true_and] at h
 obtain ⟨h1, h2, h3, h4, h5⟩ := h
 have e1 := zkd hy.1 hx.1 h1
 have e2 := zkd hy.2.1 hx.2.1 h2
 have e3 := zkd hy.2.2.1 hx.2.2.1 h3
 have e4 := zkd hy.2.2.2.1 hx.2.2.2.1 h4
 have e5 := zkd hy.2.2.2.2 hx.2.2.2.2 h5
 cases x
 cases y
 simp_all
theorem keptW_inj {a b : Bool} (h : keptW a = keptW b) : a = b := by
 cases a <;> cases b <;> simp [keptW] at h <;> rfl
theorem htlcC_inj {x y : Htlc} (hx : numB x.Key = true ∧ numB x.In = true ∧ numB x.Out = true ∧ numB x.AmtIn = true ∧ numB x.AmtOut = true ∧ numB x.Age = true) (hy : numB y.Key = true ∧ numB y.In = true ∧ numB y.Out = true ∧ numB y.AmtIn = true ∧ numB y.AmtOut = true ∧ numB y.Age = true) (e : htlcC x = htlcC y) : x = y := by
 have h := htlcC_cut x
 rw [e, htlcC_cut y] at h
 simp only [List.cons.injEq, and_true, true_and] at h
 obtain ⟨h1, h2, h3, h4, h5, h6, h7⟩ := h
 have e1 := zkd hy.1 hx.1 h1
 have e2 := zkd hy.2.1 hx.2.1 h2
 have e3 := zkd hy.2.2.1 hx.2.2.1 h3
 have e4 := zkd hy.2.2.2.1 hx.2.2.2.1 h4
 have e5 := zkd hy.2.2.2.2.1 hx.2.2.2.2.1 h5
 have e6 := keptW_inj h6
 have e7 := zkd hy.2.2.2.2.2 hx.2.2.2.2.2 h7
 cases x
 cases y
 simp_all
theorem book_cut {bt bn bw : Int} {cs : List Chan} {hs : List Htlc} {os : List Circle} (h : bookB bt bn bw cs hs os = true) : parts 10 (bookL bt bn bw cs hs os) = (headC bt bn bw :: bookRows cs hs os) ++ [[]] := by
 unfold bookL
 rw [if_pos h, book_parts]
theorem rows_stop_o (w : List UInt8) (hw : (overW == w) = false) : ([overW] : List (List UInt8)).takeWhile (firstIs w) = [] := by
 rw [List.takeWhile_cons, first_over, hw]
 rfl
theorem rows_stop_c (os : List Circle) (w : List UInt8) (h1 : (circW == w) = false) (h2 : (overW == w) = false) : (os.map circC ++ [overW]).takeWhile (firstIs w) = [] := by
 cases os with
 | nil => exact rows_stop_o w h2
 | cons o os =>
  rw [List.map_cons, List.cons_append, List.takeWhile_cons, first_circ, h1]
  rfl
theorem rows_stop_h (hs : List Htlc) (os : List Circle) (w : List UInt8) (h0 : (htlcW == w) = false) (h1 : (circW == w) = false) (h2 : (overW == w) = false) : (hs.map htlcC ++ (os.map circC ++ [overW])).takeWhile (firstIs w) = [] := by
 cases hs with
 | nil => exact rows_stop_c os w h1 h2
 | cons o hs =>
  rw [List.map_cons, List.cons_append, List.takeWhile_cons, first_htlc, h0]
  rfl
theorem bookL_inj {bt bn bw bt' bn' bw' : Int} {cs cs' : List Chan} {hs hs' : List Htlc} {os os' : List Circle} (h : bookB bt bn bw cs hs os = true) (h' : bookB bt' bn' bw' cs' hs' os' = true) (e : bookL bt bn bw cs hs os = bookL bt' bn' bw' cs' hs' os') :
  bt = bt' ∧ bn = bn' ∧ bw = bw' ∧ cs = cs' ∧ hs = hs' ∧ os = os' := by
 have n := book_nums h
 have n' := book_nums h'
 have hp := book_cut h
 rw [e, book_cut h'] at hp
 have hq := List.append_cancel_right hp
 simp only [List.cons.injEq] at hq
 obtain ⟨q1, q2⟩ := hq
 have r1 := headC_cut bt bn bw
 rw [← q1, headC_cut bt' bn' bw'] at r1
 simp only [List.cons.injEq, and_true, true_and] at r1
 obtain ⟨a1, a2, a3⟩ := r1
 unfold bookRows at q2
 obtain ⟨c1, q3⟩ := split_eq (w := chanW) (fun x => by rw [first_chan]; decide) (rows_stop_h hs' os' chanW (by decide) (by decide) (by decide)) (rows_stop_h hs os chanW (by decide) (by decide) (by decide)) q2
 obtain ⟨c2, q4⟩ := split_eq (w := htlcW) (fun x => by rw [first_htlc]; decide) (rows_stop_c os' htlcW (by decide) (by decide)) (rows_stop_c os htlcW (by decide) (by decide)) q3
 obtain ⟨c3, _⟩ := split_eq (w := circW) (fun x => by rw [first_circ]; decide) (rows_stop_o circW (by decide)) (rows_stop_o circW (by decide)) q4
 refine ⟨zkd n.t n'.t a1.symm, zkd n.n n'.n a2.symm, zkd n.w n'.w a3.symm, ?_, ?_, ?_⟩
 ·
  exact (map_inj_on (fun x y hx hy => chanC_inj hx hy) n'.c n.c c1).symm
 ·
  exact (map_inj_on (fun x y hx hy => htlcC_inj hx hy) n'.h n.h c2).symm
 ·
  exact (map_inj_on (fun x y hx hy => circC_inj hx hy) n'.o n.o c3).symm
def BookIs (s : List UInt8) (bt bn bw : Int) (cs : List Chan) (hs : List Htlc) (os : List Circle) (ok : Bool) : Prop :=
 (ok = true ∧ bookB bt bn bw cs hs os = true ∧ bookL bt bn bw cs hs os = s) ∨
  (ok = false ∧ bt = 0 ∧ bn = 0 ∧ bw = 0 ∧ cs = [] ∧ hs = [] ∧ os = [] ∧ ∀ bt' bn' bw' cs' hs' os', bookB bt' bn' bw' cs' hs' os' = true → bookL bt' bn' bw' cs' hs' os' ≠ s)
theorem BookIs.one {s : List UInt8} {bt bn bw bt' bn' bw' : Int} {cs cs' : List Chan} {hs hs' : List Htlc} {os os' : List Circle} {ok ok' : Bool} (h : BookIs s bt bn bw cs hs os ok) (h' : BookIs s bt' bn' bw' cs' hs' os' ok') :
  bt = bt' ∧ bn = bn' ∧ bw = bw' ∧ cs = cs' ∧ hs = hs' ∧ os = os' ∧ ok = ok' := by
 rcases h with ⟨rfl, h1, h2⟩ | ⟨rfl, rfl, rfl, rfl, rfl, rfl, rfl, h1⟩ <;> rcases h' with ⟨rfl, h3, h4⟩ | ⟨rfl, rfl, rfl, rfl, rfl, rfl, rfl, h3⟩
 ·
  obtain ⟨a, b, c, d, e, f⟩ := bookL_inj h1 h3 (h2.trans h4.symm)
  exact ⟨a, b, c, d, e, f, rfl⟩
 ·
  exact absurd h2 (h3 _ _ _ _ _ _ h1)
 ·
  exact absurd h4 (h1 _ _ _ _ _ _ h3)
 ·
  exact ⟨rfl, rfl, rfl, rfl, rfl, rfl, rfl⟩
end Go.Proofs.YtcjbjpobpefehaaGreatDoor
namespace Go.Proofs.YtcjbjpobpefehaaGreatDoor
open Go.RowKit Go.Deep
theorem info_ints : (Tryz.prog.info? 3).map (fun i => (i.zero, i.size, i.bytes)) = some (some (.int .i64 0), 1, 8) := by kernel_rfl
def NumsP (ls : List (List UInt8)) (w : World) (e : Ending) (w' : World) : Prop :=
 ((ls.all numOk = true ∧ ∃ A cap, e = .returned (.tuple #[.slice A ls.length cap, .bool true]) ∧ Ow w' w.heap.size 3 1 (.slice A ls.length cap) ((ls.map numOf).map intCells)) ∨
  (ls.all numOk = false ∧ e = .returned (.tuple #[.slice none 0 0, .bool false]))) ∧ Below w.heap.size w w'
set_option maxRecDepth 100000 in
set_option maxHeartbeats 1000000 in
theorem zjf (ls : List (List UInt8)) (A : Option Addr) (cap : Nat) (w : World) (hld : Le w) (hl : ls.length ≤ 1048577) (hs : ∀ x ∈ ls, x.length ≤ 1048576) (hr : Rd w w.heap.size 1 A (ls.map strC)) :
  Calls Tryz.prog 58 #[.slice A ls.length cap] w (NumsP ls w) := by
 have HLD := Lib.hid hld
 have HR := Lib.hid hr
 have HSZ := Lib.hid hs
 clear hld hr hs
 obtain ⟨i0, hi, hz0, hz1, hz2⟩ := info_parts info_ints
 have HI := Lib.hid hi
 have HZ0 := Lib.hid hz0
 have HZ1 := Lib.hid hz1
 have HZ2 := Lib.hid hz2
 clear hi hz0 hz1 hz2
 go_enter Tryz.func58, Tryz.ntmps58
 go_wp2_with fail
 go_loopw [4, 11] (fun v i wr => ∃ (k : Nat) (B : Option Addr) (cp : Nat), k ≤ ls.length ∧ i = .int .i64 k ∧ v = .slice B ((ls.take k).map numOf).length cp ∧ Ow wr w.heap.size 3 1 (.slice B ((ls.take k).map numOf).length cp) (((ls.take k).map numOf).map intCells) ∧ Hid ((ls.take k).all numOk = true) ∧ Below w.heap.size w wr) (fun _ i _ => ls.length - (intOf i).toNat)
 case atStart => exact ⟨0, none, 0, Nat.zero_le _, rfl, rfl, Ow.nil_, Lib.hid rfl, Below.refl _ _⟩
 case round =>
  obtain ⟨k, B, cp, hk, rfl, rfl, how, HA, hbw⟩ := hrel
  have hbz := hbw.size
  have hrl : ((ls.take k).map numOf).length ≤ 1048577 := by simp; omega
  have OB := Lib.hid how.block
  have HW := Lib.hid how
  clear how
  by_cases hlt : k < ls.length
  ·
   obtain ⟨b, off, rfl, hbB, c0⟩ := zkb (HR.out.below hbw) hlt
   have HK := Lib.hid (show (ls.take (k + 1)).map numOf = (ls.take k).map numOf ++ [numOf ls[k]] by
    rw [List.take_succ_eq_append_getElem hlt, List.map_append]
    rfl)
   have hsz := HSZ.out ls[k] (List.getElem_mem hlt)
   obtain ⟨x, hx⟩ : ∃ x : ByteArray, (⟨(ls[k]).toArray⟩ : ByteArray) = x := ⟨_, rfl⟩
   have hxl : x.data.toList = ls[k] := by rw [← hx]
   have hxs : x.size ≤ 281474976710656 := by
    have : x.data.toList.length = x.size := Array.length_toList
    rw [hxl] at this
    omega
   have HXL := Lib.hid hxl
   rw [hx] at c0
   clear hx hxl hsz
   obtain ⟨RS, hRS⟩ : ∃ R, (ls.take k).map numOf = R := ⟨_, rfl⟩
   rw [hRS] at hrl OB HW HK ⊢
   clear hRS
   cases hok : numOk ls[k]
   ·
    have HN := Lib.hid (show ls.all numOk = false by
     rw [List.all_eq_false]
     exact ⟨ls[k], List.getElem_mem hlt, by rw [hok]; simp⟩)
    have HOK := Lib.hid hok
    clear hok
    go_wp2_with fail
    refine (i_TextNum x _ (HLD.out.below (bl_)) hxs).mono ?_
    rintro e w1 ⟨rfl, hb1⟩
    have z1 := hb1.size
    rw [HXL.out, HOK.out]
    go_wp2_with fail
    go_ret2
    exact ⟨Or.inr ⟨HN.out, rfl⟩, bl_⟩
   ·
    have HOK := Lib.hid hok
    clear hok
    go_wp2_with fail
    refine (i_TextNum x _ (HLD.out.below (bl_)) hxs).mono ?_
    rintro e w1 ⟨rfl, hb1⟩
    have z1 := hb1.size
    rw [HXL.out, HOK.out]
    have hb2 : Below w.heap.size w w1 := bl_
    have HW1 := Lib.hid (HW.out.below hb1)
    have KB := Lib.hid (fun o1 (w6 : World) (hgr : (w1.alloc o1).grownBy w6 (Value.slice B RS.length cp).ownBlock) => (hb2.alloc (by omega) o1).grown hgr (by simp; omega) (fun k e => (OB.out k e).1))
    have HA1 := Lib.hid (show (ls.take (k + 1)).all numOk = true by
     rw [List.take_succ_eq_append_getElem hlt, List.all_append, HA.out]
     simp [HOK.out])
    obtain ⟨v, hv⟩ : ∃ v, numOf ls[k] = v := ⟨_, rfl⟩
    rw [hv] at HK ⊢
    clear hb1 HW HA hv
    go_wp2_with (at_builtin; refine zxj rfl _ _ _ rfl w.heap.size 3 i0 _ 1 8 Tryz.underlying71 HI.out HZ0.out HZ1.out HZ2.out rfl (by decide) (.slice B RS.length cp) (RS.map intCells) rfl (HW1.out.alloc _) w1.heap.size 1 [.int .i64 v] 3 rfl (zxa (by first | rfl | (simp; done))) rfl (by simp [Value.oneCell']) (by rw [List.length_map]; omega) (by decide) (by first | omega | (simp; omega) | (simp; done)) ?_; intro g cap' w6 how6 hgr6 hat6 hlt6; rw [List.length_map] at how6; rw [List.length_map]; have hb6 := KB.out _ _ hgr6; have O6 := Lib.hid how6; clear how6 hgr6 hat6)
    go_roundw
    case rel =>
     refine ⟨k + 1, some ⟨g, 0, none⟩, cap', by omega, by go_num, by rw [HK.out, List.length_append]; rfl, ?_, HA1, hb6⟩
     rw [HK.out, List.map_append, List.length_append]
     exact O6.out
    case measure => simp [intOf]; omega
  ·
   obtain rfl : k = ls.length := by omega
   rw [List.take_length] at HW HA ⊢
   have HW2 : Hid (Ow wr w.heap.size 3 1 (.slice B ls.length cp) ((ls.map numOf).map intCells)) := Lib.hid (by
    have := HW.out
    rw [List.length_map] at this
    exact this)
   rw [List.length_map]
   clear HW OB
   go_wp2_with fail
   go_ret2
   exact ⟨Or.inl ⟨HA.out, B, cp, rfl, HW2.out⟩, hbw⟩
def linesL (l : List UInt8) : List (List UInt8) := if (parts 10 l).getLast? = some [] then (parts 10 l).dropLast else parts 10 l
theorem linesL_len (l : List UInt8) : (linesL l).length ≤ l.length + 1 := by
 have := zjn 10 l
 unfold linesL
 split
 ·
  rw [List.length_dropLast]; omega
 ·
  exact this
theorem linesL_sub (l : List UInt8) : ∀ p ∈ linesL l, p.length ≤ l.length := by
 intro p hp
 unfold linesL at hp
 split at hp
 ·
  exact zji 10 l p (List.dropLast_subset _ hp)
 ·
  exact zji 10 l p hp
theorem Ow.strs {w : World} {B g n cap : Nat} {e : TypeId} {l : List (List UInt8)} (h : Ow w B e 1 (.slice (some ⟨g, 0, none⟩) n cap) (l.map strC)) :
  ∃ cs, w.heap[g]? = some (.cells cs e (0, 0)) ∧ ∀ (j : Nat) x, l[j]? = some x → cs[j]? = some (.string ⟨x.toArray⟩) := by
 obtain ⟨cs, hh, _, _⟩ := Fill.of_ow (xs := []) h
 refine ⟨cs, hh, fun j x hx => ?_⟩
 have hj : j < l.length := (List.getElem?_eq_some_iff.1 hx).1
 obtain ⟨b, off, e1, _, hc⟩ := zkb h.rd hj
 simp only [Option.some.injEq, Addr.mk.injEq, and_true] at e1
 obtain ⟨rfl, rfl⟩ := e1
 rw [zqc hh, Nat.zero_add] at hc
 rw [List.getElem?_eq_getElem hj] at hx
 rw [hc, Option.some.inj hx]
def LinesP (l : List UInt8) (w : World) (e : Ending) (w' : World) : Prop :=
 ∃ (cap : Nat) (cs : Array Value), e = .returned (.slice (some ⟨w.heap.size, 0, none⟩) (linesL l).length cap) ∧ w'.heap[w.heap.size]? = some (.cells cs 9 (0, 0)) ∧ (∀ (j : Nat) x, (linesL l)[j]? = some x → cs[j]? = some (.string ⟨x.toArray⟩)) ∧ (linesL l).length ≤ cap ∧ Below w.heap.size w w'
set_option maxHeartbeats 1000000 in
theorem i_linesOf (s : ByteArray) (w : World) (hld : Ld w) (hs : s.size ≤ 1048576) : Calls Tryz.prog 26 #[.string s] w (LinesP s.data.toList w) := by
 have HC := Lib.hid (zvh s 10 w hld (by omega))
 have hpl := zjn 10 s.data.toList
 have hz : s.data.toList.length = s.size := Array.length_toList
 have hp0 : 0 < (parts 10 s.data.toList).length := by
  have := parts_ne 10 s.data.toList
  exact List.length_pos_iff.2 this
 rw [hz] at hpl
 have HD := Lib.hid (show linesL s.data.toList = if (parts 10 s.data.toList).getLast? = some [] then (parts 10 s.data.toList).dropLast else parts 10 s.data.toList from rfl)
 obtain ⟨P, hP⟩ : ∃ P, parts 10 s.data.toList = P := ⟨_, rfl⟩
 obtain ⟨LL, hLL⟩ : ∃ LL, linesL s.data.toList = LL := ⟨_, rfl⟩
 have HPost := Lib.hid (show ∀ cap cs w', w'.heap[w.heap.size]? = some (.cells cs 9 (0, 0)) → (∀ (j : Nat) x, LL[j]? = some x → cs[j]? = some (.string ⟨x.toArray⟩)) → LL.length ≤ cap → Below w.heap.size w w' → LinesP s.data.toList w (.returned (.slice (some ⟨w.heap.size, 0, none⟩) LL.length cap)) w' from fun cap cs w' h1 h2 h3 h4 => ⟨cap, cs, by rw [hLL], h1, by rw [hLL]; exact h2, by rw [hLL]; exact h3, h4⟩)
 rw [hLL, hP] at HD
 rw [hP] at HC hpl hp0
 clear hP hLL hz hld
 obtain ⟨j, hj⟩ : ∃ j, P.length = j + 1 := ⟨P.length - 1, by omega⟩
 have hjP : j < P.length := by omega
 have HG := Lib.hid (show P.getLast? = some P[j] by
  rw [List.getLast?_eq_getElem?, hj, Nat.add_sub_cancel, List.getElem?_eq_getElem hjP])
 have HJ := Lib.hid hj
 rw [hj] at HC hpl
 clear hp0 hj
 have i1 : (0 : Int) ≤ (j : Int) := by omega
 go_enter Tryz.func26, Tryz.ntmps26
 go_wp2_with fail
 refine HC.out.mono ?_
 rintro e w1 ⟨rfl, how, hb1⟩
 have z1 := hb1.size
 have HW := Lib.hid how
 obtain ⟨b, off, e1, hbB, c0⟩ := zkb how.rd hjP
 simp only [Option.some.injEq, Addr.mk.injEq, and_true] at e1
 obtain ⟨rfl, rfl⟩ := e1
 rw [Nat.zero_add] at c0
 clear how
 obtain ⟨x, hx⟩ : ∃ x : ByteArray, (⟨(P[j]).toArray⟩ : ByteArray) = x := ⟨_, rfl⟩
 have HXL := Lib.hid (show Str P[j] x from hx.symm)
 rw [hx] at c0
 clear hx
 by_cases hxe : x = ⟨#[]⟩
 ·
  have HT := Lib.hid (show LL = P.dropLast by
   rw [HD.out, HG.out, if_pos]
   have := HXL.out.data
   rw [hxe] at this
   rw [← this])
  have HL := Lib.hid (show LL.length = j by rw [HT.out, List.length_dropLast, HJ.out, Nat.add_sub_cancel])
  subst hxe
  go_wp2_with fail
  go_ret
  obtain ⟨cs, h1, h2⟩ := HW.out.strs
  have := HPost.out (j + 1) cs _ h1 (fun i y hy => h2 i y (by
   rw [HT.out, List.dropLast_eq_take, List.getElem?_take] at hy
   split at hy
   ·
    exact hy
   ·
    cases hy)) (by rw [HL.out]; omega) hb1
  rw [HL.out] at this
  exact this
 ·
  have HT := Lib.hid (show LL = P by
   rw [HD.out, HG.out, if_neg]
   intro h
   refine hxe ?_
   have h2 : P[j] = [] := Option.some.inj h
   have := HXL.out
   unfold Str at this
   rw [this, h2])
  have hne := neq_str hxe
  have hne1 : x.toList.isEmpty = false := by
   have h := neq_str hxe
   cases hx : x.toList with
   | nil => rw [hx] at h; simp at h
   | cons a r => rfl
  clear hne
  have HL := Lib.hid (show LL.length = j + 1 by rw [HT.out, HJ.out])
  clear hxe
  go_wp2_with fail
  go_ret
  obtain ⟨cs, h1, h2⟩ := HW.out.strs
  have := HPost.out (j + 1) cs _ h1 (fun i y hy => h2 i y (by rw [HT.out] at hy; exact hy)) (by rw [HL.out]; exact Nat.le_refl _) hb1
  rw [HL.out] at this
  exact this
end Go.Proofs.YtcjbjpobpefehaaGreatDoor
namespace Go.Proofs.YtcjbjpobpefehaaGreatDoor
open Go
def cutI (p : List (List UInt8)) : List (List UInt8) := if p.length = 8 ∧ p.headD [] = htlcW then p.take 6 ++ [p.getD 7 []] else p
def keptI (p : List (List UInt8)) : Bool := decide (p.length = 8) && (p.headD [] == htlcW) && (p.getD 6 [] == keptW true)
def numIx (l : List (List UInt8)) (i : Nat) : Int := numOf (l.getD i [])
def wordI (b : Bk) (h : List UInt8) (l : List (List UInt8)) (kept : Bool) : Option Bk :=
 if h = bookW ∧ l.length = 3 then some { b with t := numIx l 0, n := numIx l 1, w := numIx l 2 }
 else if h = chanW ∧ l.length = 7 ∧ b.cs.length < 20 then some { b with cs := b.cs ++ [⟨numIx l 0, numIx l 1, numIx l 2, numIx l 3, numIx l 4, numIx l 5, numIx l 6⟩] }
 else if h = htlcW ∧ l.length = 6 ∧ b.hs.length < 60 then some { b with hs := b.hs ++ [⟨numIx l 0, numIx l 1, numIx l 2, numIx l 3, numIx l 4, kept, numIx l 5⟩] }
 else if h = circW ∧ l.length = 5 ∧ b.os.length < 20 then some { b with os := b.os ++ [⟨numIx l 0, numIx l 1, numIx l 2, numIx l 3, numIx l 4⟩] }
 else if h = overW ∧ l.length = 0 then some b
 else none
def partI (b : Bk) (row : List UInt8) : Option Bk :=
 if (cutI (parts 32 row)).tail.all numOk = false then none
 else wordI b ((cutI (parts 32 row)).headD []) (cutI (parts 32 row)).tail (keptI (parts 32 row))
theorem kept_hit (b : Bool) : (keptW b == keptW true) = b := by cases b <;> rfl
section
variable {b : Bk}
theorem partI_head {t n w : Int} (h1 : numB t = true) (h2 : numB n = true) (h3 : numB w = true) : partI b (headC t n w) = some { b with t := t, n := n, w := w } := by
 have e1 := zwi h1
 have e2 := zwi h2
 have e3 := zwi h3
 unfold partI
 rw [headC_cut]
 simp [cutI, wordI, numIx, e1, e2, e3]
theorem partI_chan {c : Chan} (h : numB c.Id = true ∧ numB c.Size = true ∧ numB c.Local = true ∧ numB c.Remote = true ∧ numB c.Base = true ∧ numB c.Ppm = true ∧ numB c.Score = true) (hl : b.cs.length < 20) : partI b (chanC c) = some { b with cs := b.cs ++ [c] } := by
 have e1 := zwi h.1
 have e2 := zwi h.2.1
 have e3 := zwi h.2.2.1
 have e4 := zwi h.2.2.2.1
 have e5 := zwi h.2.2.2.2.1
 have e6 := zwi h.2.2.2.2.2.1
 have e7 := zwi h.2.2.2.2.2.2
 unfold partI
 rw [chanC_cut]
 simp [cutI, wordI, numIx, e1, e2, e3, e4, e5, e6, e7, hl, show chanW ≠ htlcW by decide, show chanW ≠ bookW by decide]
theorem partI_htlc {c : Htlc} (h : numB c.Key = true ∧ numB c.In = true ∧ numB c.Out = true ∧ numB c.AmtIn = true ∧ numB c.AmtOut = true ∧ numB c.Age = true) (hl : b.hs.length < 60) : partI b (htlcC c) = some { b with hs := b.hs ++ [c] } := by
 have e1 := zwi h.1
 have e2 := zwi h.2.1
 have e3 := zwi h.2.2.1
 have e4 := zwi h.2.2.2.1
 have e5 := zwi h.2.2.2.2.1
 have e6 := zwi h.2.2.2.2.2
 unfold partI
 rw [htlcC_cut]
 simp [cutI, wordI, numIx, keptI, kept_hit, e1, e2, e3, e4, e5, e6, hl, show htlcW ≠ chanW by decide, show htlcW ≠ bookW by decide]
theorem partI_circ {c : Circle} (h : numB c.Key = true ∧ numB c.From = true ∧ numB c.To = true ∧ numB c.Amt = true ∧ numB c.Fee = true) (hl : b.os.length < 20) : partI b (circC c) = some { b with os := b.os ++ [c] } := by
 have e1 := zwi h.1
 have e2 := zwi h.2.1
 have e3 := zwi h.2.2.1
 have e4 := zwi h.2.2.2.1
 have e5 := zwi h.2.2.2.2
 unfold partI
 rw [circC_cut]
 simp [cutI, wordI, numIx, e1, e2, e3, e4, e5, hl, show circW ≠ chanW by decide, show circW ≠ bookW by decide, show circW ≠ htlcW by decide]
theorem partI_over : partI b overW = some b := by
 unfold partI
 rw [over_cut]
 simp [cutI, wordI, show overW ≠ chanW by decide, show overW ≠ bookW by decide, show overW ≠ htlcW by decide, show overW ≠ circW by decide]
end
def readI (b : Bk) : List (List UInt8) → Option Bk
 | [] => some b
 | r :: rs => match partI b r with | some b' => readI b' rs | none => none
theorem readI_append : ∀ (x y : List (List UInt8)) (b : Bk), readI b (x ++ y) = match readI b x with | some b' => readI b' y | none => none
 | [], y, b => rfl
 | r :: x, y, b => by
  rw [List.cons_append, readI, readI]
  cases partI b r with
  | none => rfl
  | some b' => exact readI_append x y b'
theorem readI_succ {b0 b : Bk} {L : List (List UInt8)} {k : Nat} (hk : k < L.length) (h : readI b0 (L.take k) = some b) : readI b0 (L.take (k + 1)) = partI b L[k] := by
 rw [List.take_succ_eq_append_getElem hk, readI_append, h]
 simp only [readI]
 cases partI b L[k] <;> rfl
theorem readI_stop {b0 b : Bk} {L : List (List UInt8)} {k : Nat} (hk : k < L.length) (h : readI b0 (L.take k) = some b) (hn : partI b L[k] = none) : readI b0 L = none := by
 have e : L = L.take (k + 1) ++ L.drop (k + 1) := (List.take_append_drop _ _).symm
 rw [e, readI_append, readI_succ hk h, hn]
theorem readI_chans : ∀ (cs : List Chan) (b : Bk) (r : List (List UInt8)), (∀ c ∈ cs, numB c.Id = true ∧ numB c.Size = true ∧ numB c.Local = true ∧ numB c.Remote = true ∧ numB c.Base = true ∧ numB c.Ppm = true ∧ numB c.Score = true) → b.cs.length + cs.length ≤ 20 → readI b (cs.map chanC ++ r) = readI { b with cs := b.cs ++ cs } r
 | [], b, r, _, _ => by simp
 | c :: cs, b, r, h, hl => by
  simp only [List.length_cons] at hl
  rw [List.map_cons, List.cons_append, readI, partI_chan (h c (by simp)) (by omega)]
  show readI _ _ = _
  rw [readI_chans cs _ r (fun x hx => h x (by simp [hx])) (by simp; omega)]
  simp
theorem readI_htlcs : ∀ (cs : List Htlc) (b : Bk) (r : List (List UInt8)), (∀ c ∈ cs, numB c.Key = true ∧ numB c.In = true ∧ numB c.Out = true ∧ numB c.AmtIn = true ∧ numB c.AmtOut = true ∧ numB c.Age = true) → b.hs.length + cs.length ≤ 60 → readI b (cs.map htlcC ++ r) = readI { b with hs := b.hs ++ cs } r
 | [], b, r, _, _ => by simp
 | c :: cs, b, r, h, hl => by
  simp only [List.length_cons] at hl
  rw [List.map_cons, List.cons_append, readI, partI_htlc (h c (by simp)) (by omega)]
  show readI _ _ = _
  rw [readI_htlcs cs _ r (fun x hx => h x (by simp [hx])) (by simp; omega)]
  simp
theorem readI_circs : ∀ (cs : List Circle) (b : Bk) (r : List (List UInt8)), (∀ c ∈ cs, numB c.Key = true ∧ numB c.From = true ∧ numB c.To = true ∧ numB c.Amt = true ∧ numB c.Fee = true) → b.os.length + cs.length ≤ 20 → readI b (cs.map circC ++ r) = readI { b with os := b.os ++ cs } r
 | [], b, r, _, _ => by simp
 | c :: cs, b, r, h, hl => by
  simp only [List.length_cons] at hl
  rw [List.map_cons, List.cons_append, readI, partI_circ (h c (by simp)) (by omega)]
  show readI _ _ = _
  rw [readI_circs cs _ r (fun x hx => h x (by simp [hx])) (by simp; omega)]
  simp
section
variable {bt bn bw : Int} {cs : List Chan} {hs : List Htlc} {os : List Circle}
theorem book_lines (h : bookB bt bn bw cs hs os = true) : linesL (bookL bt bn bw cs hs os) = headC bt bn bw :: bookRows cs hs os := by
 unfold linesL
 rw [book_cut h, if_pos]
 ·
  rw [List.dropLast_concat]
 ·
  rw [List.getLast?_concat]
theorem readI_book (h : bookB bt bn bw cs hs os = true) : readI bk0 (linesL (bookL bt bn bw cs hs os)) = some ⟨bt, bn, bw, cs, hs, os⟩ := by
 have n := book_nums h
 have f := zwj h
 have hc := f.cl
 have hh := f.small.hl
 have ho := f.small.ol
 rw [book_lines h, readI, partI_head n.t n.n n.w]
 show readI _ (bookRows cs hs os) = _
 unfold bookRows
 rw [readI_chans cs _ _ n.c (by simpa [bk0] using hc), readI_htlcs hs _ _ n.h (by simpa [bk0] using hh), readI_circs os _ _ n.o (by simpa [bk0] using ho), readI, partI_over]
 simp [readI, bk0]
theorem bookL_ne (h : bookB bt bn bw cs hs os = true) : bookL bt bn bw cs hs os ≠ [] := fun e => by
 have := book_cut h
 rw [e] at this
 simp [parts, bookRows] at this
theorem book_hit {s : List UInt8} (hs0 : s ≠ []) (h : bookL bt bn bw cs hs os = s) : BookIs s bt bn bw cs hs os true := by
 refine Or.inl ⟨rfl, ?_, h⟩
 cases hb : bookB bt bn bw cs hs os with
 | true => rfl
 | false =>
  exfalso
  refine hs0 ?_
  rw [← h]
  unfold bookL
  rw [hb]
  rfl
end
theorem book_none {s : List UInt8} (h : ∀ bt bn bw cs hs os, bookB bt bn bw cs hs os = true → bookL bt bn bw cs hs os = s → False) : BookIs s 0 0 0 [] [] [] false := Or.inr ⟨rfl, rfl, rfl, rfl, rfl, rfl, rfl, fun _ _ _ _ _ _ h1 h2 => h _ _ _ _ _ _ h1 h2⟩
theorem book_noneI {s : List UInt8} (h : readI bk0 (linesL s) = none) : BookIs s 0 0 0 [] [] [] false := book_none fun _ _ _ _ _ _ h1 h2 => by
 rw [← h2, readI_book h1] at h
 cases h
theorem book_missI {s : List UInt8} {b : Bk} (h : readI bk0 (linesL s) = some b) (hn : bookL b.t b.n b.w b.cs b.hs b.os ≠ s) : BookIs s 0 0 0 [] [] [] false := book_none fun _ _ _ _ _ _ h1 h2 => by
 rw [← h2, readI_book h1] at h
 cases h
 exact hn h2
theorem book_empty : BookIs [] 0 0 0 [] [] [] false := book_none fun _ _ _ _ _ _ h1 h2 => bookL_ne h1 h2
theorem partI_len {b b' : Bk} {r : List UInt8} (h : partI b r = some b') (h1 : b.cs.length ≤ 20) (h2 : b.hs.length ≤ 60) (h3 : b.os.length ≤ 20) : b'.cs.length ≤ 20 ∧ b'.hs.length ≤ 60 ∧ b'.os.length ≤ 20 := by
 unfold partI at h
 split at h
 ·
  cases h
 ·
  unfold wordI at h
  repeat' split at h
  all_goals first | (cases h; done) | skip
  all_goals
   injection h with h
   subst h
   first | exact ⟨h1, h2, h3⟩ | (simp; omega)
end Go.Proofs.YtcjbjpobpefehaaGreatDoor
namespace Go.Proofs.YtcjbjpobpefehaaGreatDoor
open Go.RowKit Go.Deep

def RdB (s : List UInt8) (w : World) (e : Ending) (w' : World) : Prop :=
  ∃ (b : Bk) (A1 A2 A3 : Option Addr) (p1 p2 p3 : Nat) (ok : Bool), e = .returned (.tuple #[bkVal b A1 A2 A3 p1 p2 p3, .bool ok]) ∧ OwB w' w.heap.size b A1 A2 A3 p1 p2 p3 ∧ BookIs s b.t b.n b.w b.cs b.hs b.os ok ∧ Below w.heap.size w w'
theorem RdB.zero {s : List UInt8} {w w' : World} (h : BookIs s 0 0 0 [] [] [] false) (hb : Below w.heap.size w w') : RdB s w (.returned (.tuple #[.agg #[.int .i64 0, .int .i64 0, .int .i64 0, .slice none 0 0, .slice none 0 0, .slice none 0 0], .bool false])) w' :=
  ⟨bk0, none, none, none, 0, 0, 0, false, rfl, OwB.nil_ _ _ _ _ _, h, hb⟩
theorem OwB.six_aside {w : World} {B B' R : Nat} {b : Bk} {A1 A2 A3 : Option Addr} {p1 p2 p3 : Nat} {t : TypeId} {cs : Array Value} (h : OwB w B b A1 A2 A3 p1 p2 p3) (hB : B' ≤ B ∧ R < B) (_ : w.heap[R]? = some (.cells cs t (0, 0))) (u0 u1 u2 u3 u4 u5 : Value) :
    OwB ((((((w.setCell ⟨R, 0, none⟩ u0).setCell ⟨R, 1, none⟩ u1).setCell ⟨R, 2, none⟩ u2).setCell ⟨R, 3, none⟩ u3).setCell ⟨R, 4, none⟩ u4).setCell ⟨R, 5, none⟩ u5) B' b A1 A2 A3 p1 p2 p3 := by
  refine OwB.more (B := B) ?_ hB.1
  have far : ∀ {W : World} {e : TypeId} {n i : Nat} {v : Value} {rows : List (List Value)} {u : Value}, Ow W B e n v rows → Ow (W.setCell ⟨R, i, none⟩ u) B e n v rows := fun h => h.far (show R < B from hB.2) _
  exact ⟨far (far (far (far (far (far h.c))))), far (far (far (far (far (far h.h))))), far (far (far (far (far (far h.o)))))⟩
end Go.Proofs.YtcjbjpobpefehaaGreatDoor
