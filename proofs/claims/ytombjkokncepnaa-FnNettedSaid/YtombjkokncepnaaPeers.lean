/- Debts: the peers: the walks. -/
import Derived.Test.YtombjkokncepnaaRows
import Derived.Test.YtombjkokncepnaaNetp
import Derived.Test.YtombjkokncepnaaBookA
import Derived.Test.YtombjkokncepnaaSortI
namespace Go.Proofs.Ytombjkokncepnaa
open Go.RowKit

theorem info_int1 : (Try.prog.info? 3).map (fun i => (i.zero, i.size, i.bytes)) = some (some (.int .i64 0), 1, 8) := by kernel_rfl
theorem coll_succ (l : List Debt) {k : Nat} (hk : k < l.length) : coll (l.take (k + 1)) = collF (coll (l.take k)) l[k] := foldl_take_succ l _ _ hk
def nth2 (a b : Int) (j : Nat) : Int := if j = 0 then a else b
theorem collS_succ (out : List Int) (d : Debt) {j : Nat} (hj : j < 2) : collS out d (j + 1) = addP (collS out d j) (nth2 d.From d.To j) := by
  match j, hj with
  | 0, _ => rfl
  | 1, _ => rfl
theorem collS_len (out : List Int) (d : Debt) {j : Nat} (hj : j ≤ 2) : (collS out d j).length ≤ out.length + j := by
  match j, hj with
  | 0, _ => exact Nat.le_refl _
  | 1, _ => exact len_addP _ _
  | 2, _ =>
    have h1 := len_addP out d.From
    have h2 := len_addP (addP out d.From) d.To
    simp only [collS, collF]
    omega
theorem addP_in {out : List Int} {p : Int} (h : hasB out p = true) : addP out p = out := by rw [addP, if_pos h]
theorem addP_new {out : List Int} {p : Int} (h : hasB out p = false) : addP out p = out ++ [p] := by rw [addP, if_neg (by rw [h]; decide)]
set_option maxRecDepth 100000 in
set_option maxHeartbeats 4000000 in
theorem i_PeersOf (l : List Debt) (A : Option Addr) (cap : Nat) (w : World) (hl : l.length ≤ 1048576) (hr : Rd w w.heap.size 3 A (l.map Debt.cells)) :
    Calls Try.prog 17 #[.slice A l.length cap] w fun e w' => ∃ A cap, e = .returned (.slice A (peersOf l).length cap) ∧ Ow w' w.heap.size 3 1 (.slice A (peersOf l).length cap) ((peersOf l).map intCells) ∧ Below w.heap.size w w' := by
  have HR := Lib.hid hr
  clear hr
  obtain ⟨i0, hi, hz0, hz1, hz2⟩ := info_parts info_int1
  have HI := Lib.hid hi
  have HZ0 := Lib.hid hz0
  have HZ1 := Lib.hid hz1
  have HZ2 := Lib.hid hz2
  clear hi hz0 hz1 hz2
  cases hok : debtsOk l
  · have H1 := Lib.hid (show peersOf l = [] by simp [peersOf, hok])
    have HOK := Lib.hid hok
    clear hok
    go_enter Try.func17, Try.ntmps17
    go_wp2_with fail
    refine (i_DebtsOk l _ _ _ hl HR.out).mono ?_
    rintro e w1 ⟨rfl, hb1⟩
    rw [HOK.out]
    go_wp2_with fail
    go_ret
    rw [H1.out]
    exact ⟨none, 0, rfl, Ow.nil_, hb1⟩
  · have H1 := Lib.hid (show peersOf l = (coll l).mergeSort (fun x y => decide (x ≤ y)) by rw [sorted_coll hok, peersOf, if_pos hok])
    have h60 := debtsOk_le hok
    have HOK := Lib.hid hok
    clear hok
    go_enter Try.func17, Try.ntmps17
    go_wp2_with fail
    refine (i_DebtsOk l _ _ _ hl HR.out).mono ?_
    rintro e w1 ⟨rfl, hb1⟩
    have z1 := hb1.size
    rw [HOK.out]
    go_wp2_with fail
    go_loopw [3, 13] (fun vk i wr => ∃ (k : Nat) (B : Option Addr) (cp : Nat), k ≤ l.length ∧ i = .int .i64 k ∧ vk = .slice B (coll (l.take k)).length cp ∧ Ow wr w.heap.size 3 1 (.slice B (coll (l.take k)).length cp) ((coll (l.take k)).map intCells) ∧ Below w.heap.size w wr) (fun _ i _ => l.length - (intOf i).toNat)
    case atStart => exact ⟨0, none, 0, Nat.zero_le _, rfl, rfl, Ow.nil_, hb1⟩
    case round =>
      obtain ⟨k, B, cp, hk, rfl, rfl, how, hbw⟩ := hrel
      have hbz := hbw.size
      have hrl : (coll (l.take k)).length ≤ 120 := by have := coll_len (l.take k); have := List.length_take_le k l; omega
      have OB := Lib.hid how.block
      have HW := Lib.hid how
      clear how
      by_cases hlt : k < l.length
      · obtain ⟨b, off, rfl, hbB, c0, c1, c2⟩ := Debt.rd (HR.out.below hbw) hlt
        have HK := Lib.hid (coll_succ l hlt)
        obtain ⟨RS, hRS⟩ : ∃ R, coll (l.take k) = R := ⟨_, rfl⟩
        rw [hRS] at hrl OB HW HK ⊢
        clear hRS
        obtain ⟨wo, rfl⟩ : ∃ wo : World, wo = wr := ⟨_, rfl⟩
        go_wp2_with fail
        go_loopw [3, 23] (fun vk i wr => ∃ (j : Nat) (B : Option Addr) (cp : Nat), j ≤ 2 ∧ i = .int .i64 j ∧ vk = .slice B (collS RS l[k] j).length cp ∧ Ow wr w.heap.size 3 1 (.slice B (collS RS l[k] j).length cp) ((collS RS l[k] j).map intCells) ∧ some (wo.heap.size + 1) ≠ (Value.slice B (collS RS l[k] j).length cp).ownBlock ∧ wr.heap[wo.heap.size + 1]? = some (.cells #[.int .i64 l[k].From, .int .i64 l[k].To] 3 (0, 0)) ∧ Below w.heap.size w wr) (fun _ i _ => 2 - (intOf i).toNat)
        case atStart => exact ⟨0, B, cp, Nat.zero_le _, rfl, rfl, (HW.out.alloc _).alloc _, fun e => by have := (OB.out _ e.symm).2; omega, heap_at (by simp), by (first | ((repeat' first | (with_reducible (first | exact Below.refl _ _ | assumption | refine Below.setCell ?_ ?_ _ | refine Below.alloc ?_ ?_ _ | refine Below.drew ?_ | refine below_drewN ?_ _ | refine Below.trans ?_ (Below.mono (by assumption) ?_))) | omega | (simp; omega) | (simp; done)); done) | (repeat' first | exact Below.refl _ _ | assumption | refine Below.setCell ?_ (by first | omega | (simp; omega) | (simp; done)) _ | refine Below.alloc ?_ (by first | omega | (simp; omega) | (simp; done)) _ | refine Below.drew ?_ | refine below_drewN ?_ _ | refine Below.trans ?_ (Below.mono (by assumption) (by first | omega | (simp; omega) | (simp; done)))))⟩
        case round =>
          clear c0 c1 c2
          obtain ⟨j, B', cp', hj, rfl, rfl, how, hne, hph, hbw'⟩ := hrel
          have hbz' := hbw'.size
          have hpl := (Array.getElem?_eq_some_iff.1 hph).1
          have hsl := collS_len RS l[k] hj
          have OB' := Lib.hid how.block
          have HW' := Lib.hid how
          have NE := Lib.hid hne
          have PH := Lib.hid hph
          clear how hne hph
          by_cases hj2 : j < 2
          · have pc : wr.cell? ⟨wo.heap.size + 1, j, none⟩ = some (.int .i64 (nth2 l[k].From l[k].To j)) := by
              rw [blk_cell PH.out]
              match j, hj2 with
              | 0, _ => rfl
              | 1, _ => rfl
            have HS := Lib.hid (collS_succ RS l[k] hj2)
            obtain ⟨SS, hSS⟩ : ∃ S, collS RS l[k] j = S := ⟨_, rfl⟩
            rw [hSS] at hsl OB' HW' NE HS ⊢
            clear hSS
            obtain ⟨PV, hPV⟩ : ∃ p, nth2 l[k].From l[k].To j = p := ⟨_, rfl⟩
            rw [hPV] at pc HS
            clear hPV
            cases hx : hasB SS PV
            · have HX := Lib.hid hx
              have HA := Lib.hid (addP_new hx)
              clear hx
              have KE := Lib.hid (fun o1 (w6 : World) (hgr : (wr.alloc o1).grownBy w6 (Value.slice B' SS.length cp').ownBlock) => heap_grown hgr NE.out (heap_past hpl PH.out))
              have KB := Lib.hid (fun o1 (w6 : World) (hgr : (wr.alloc o1).grownBy w6 (Value.slice B' SS.length cp').ownBlock) => ((hbw'.alloc (Nat.le_trans (Nat.le_refl _) hbz') o1)).grown hgr (by simp; omega) (fun k e => by have := (OB'.out k e).1; omega))
              go_wp2_with fail
              refine (i_hasInt SS PV _ _ _ (by omega) HW'.out.rd).mono ?_
              rintro e w' ⟨rfl, rfl⟩
              rw [HX.out]
              go_wp2_with (at_builtin; refine wpList_app1 rfl _ _ _ rfl w.heap.size 3 i0 _ 1 8 Try.underlying39 HI.out HZ0.out HZ1.out HZ2.out rfl (by decide) (.slice B' SS.length cp') (SS.map intCells) rfl (HW'.out.alloc _) wr.heap.size 1 [.int .i64 PV] 3 rfl (heap_at (by first | rfl | (simp; done))) rfl (by simp [Value.oneCell']) (by rw [List.length_map]; omega) (by decide) (by first | omega | (simp; omega) | (simp; done)) ?_; intro g cap' w6 how6 hgr6 hat6 hlt6; rw [List.length_map] at how6; rw [List.length_map]; have XH := Lib.hid (KE.out _ _ hgr6); have hb6 := KB.out _ _ hgr6; have O6 := Lib.hid how6; have AT := Lib.hid hat6; clear how6 hgr6 hat6)
              go_roundw
              case rel =>
                refine ⟨j + 1, some ⟨g, 0, none⟩, cap', by omega, by go_num, by rw [HS.out, HA.out, List.length_append]; rfl, ?_, ?_, XH.out, hb6⟩
                · rw [HS.out, HA.out, List.map_append, List.length_append]
                  exact O6.out
                · intro e
                  have e2 : wo.heap.size + 1 = g := by simpa [Value.ownBlock] using e
                  rcases AT.out with h | h
                  · exact NE.out (by rw [h, e2])
                  · simp at h
                    omega
              case measure => simp [intOf]; omega
            · have HX := Lib.hid hx
              have HA := Lib.hid (addP_in hx)
              clear hx
              go_wp2_with fail
              refine (i_hasInt SS PV _ _ _ (by omega) HW'.out.rd).mono ?_
              rintro e w' ⟨rfl, rfl⟩
              rw [HX.out]
              go_wp2_with fail
              go_roundw
              case rel => exact ⟨j + 1, B', cp', by omega, by go_num, by rw [HS.out, HA.out], by rw [HS.out, HA.out]; exact HW'.out, by rw [HS.out, HA.out]; exact NE.out, PH.out, hbw'⟩
              case measure => simp [intOf]; omega
          · obtain rfl : j = 2 := by omega
            go_wp2_with fail
            go_roundw
            case rel => exact ⟨k + 1, B', cp', by omega, by go_num, by rw [HK.out]; rfl, by rw [HK.out]; exact HW'.out, hbw'⟩
            case measure => simp [intOf]; omega
      · obtain rfl : k = l.length := by omega
        rw [List.take_length] at HW OB hrl ⊢
        rcases HW.out.open_ with ⟨h0, hv⟩ | ⟨g, cap', hv, hgB, hgc, hgl⟩
        · have h0' : coll l = [] := List.map_eq_nil_iff.1 h0
          have H2 := Lib.hid (show peersOf l = [] by rw [H1.out, h0']; simp)
          rw [h0'] at hv ⊢
          obtain ⟨rfl, rfl⟩ : B = none ∧ cp = 0 := by simpa using hv
          clear h0 hv h0' HW OB hrl
          go_wp2_with fail
          refine (sort_Ints_none _ _ _).mono ?_
          rintro e w' ⟨rfl, rfl⟩
          go_wp2_with fail
          go_ret
          rw [H2.out]
          exact ⟨none, 0, rfl, Ow.nil_, hbw⟩
        · rw [List.length_map] at hv
          obtain ⟨rfl, rfl⟩ : B = some ⟨g, 0, none⟩ ∧ cp = cap' := by simpa using hv
          clear hv
          have SRT := Lib.hid (sorted_own HW.out rfl (by omega))
          go_wp2_with fail
          refine (SRT.out).mono ?_
          rintro e w2 ⟨rfl, how2, hgr2⟩
          have hb2 : Below w.heap.size w w2 := hbw.grown hgr2 (by omega) (fun k e => by have := (OB.out k e).1; omega)
          have HO2 := Lib.hid how2
          clear how2 hgr2
          go_wp2_with fail
          go_ret
          have e1 : (coll l).length = (peersOf l).length := by rw [H1.out, List.length_mergeSort]
          rw [e1]
          refine ⟨_, _, rfl, ?_, hb2⟩
          have := HO2.out
          rw [← H1.out, e1] at this
          exact this
def specS (l : List Debt) (n k : Nat) : List Int := peersF l n ++ (if (l.take k).any (fun d => atP d ((n : Int) + 1)) = true then [(n : Int) + 1] else [])
theorem specS_zero (l : List Debt) (n : Nat) : specS l n 0 = peersF l n := by simp [specS]
theorem specS_all (l : List Debt) (n : Nat) : specS l n l.length = peersF l (n + 1) := by rw [specS, List.take_length, peersF_succ]; rfl
theorem specS_len (l : List Debt) (n k : Nat) : (specS l n k).length ≤ n + 1 := by
  have := peersF_len l n
  unfold specS
  split <;> simp <;> omega
theorem specS_has (l : List Debt) (n k : Nat) : hasB (specS l n k) ((n : Int) + 1) = (l.take k).any (fun d => atP d ((n : Int) + 1)) := by
  unfold specS
  cases h : (l.take k).any (fun d => atP d ((n : Int) + 1))
  · rw [if_neg (by decide), List.append_nil]
    exact peersF_no l n
  · rw [if_pos rfl]
    exact peersF_yes l n
theorem specS_out {l : List Debt} {n k : Nat} (hk : k < l.length) (h : atP l[k] ((n : Int) + 1) = false) : specS l n (k + 1) = specS l n k := by
  unfold specS
  rw [any_take_succ l _ hk, h, Bool.or_false]
theorem specS_old {l : List Debt} {n k : Nat} (hk : k < l.length) (h : hasB (specS l n k) ((n : Int) + 1) = true) : specS l n (k + 1) = specS l n k := by
  rw [specS_has] at h
  unfold specS
  rw [any_take_succ l _ hk, h, Bool.true_or]
theorem specS_new {l : List Debt} {n k : Nat} (hk : k < l.length) (h : atP l[k] ((n : Int) + 1) = true) (h2 : hasB (specS l n k) ((n : Int) + 1) = false) : specS l n (k + 1) = specS l n k ++ [(n : Int) + 1] := by
  rw [specS_has] at h2
  unfold specS
  rw [any_take_succ l _ hk, h, h2]
  simp
theorem atP_cases (d : Debt) (p : Int) : ((d.From == p) = false ∧ (d.To == p) = false ∧ atP d p = false) ∨ ((d.From == p) = true ∧ atP d p = true) ∨ ((d.From == p) = false ∧ (d.To == p) = true ∧ atP d p = true) := by
  unfold atP
  cases d.From == p <;> cases d.To == p <;> simp
