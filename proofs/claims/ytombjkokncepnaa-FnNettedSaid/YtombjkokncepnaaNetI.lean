/- Netting: the walk of the program. -/
import Derived.Test.YtombjkokncepnaaRows
import Derived.Test.YtombjkokncepnaaPeers
import Derived.Test.YtombjkokncepnaaNetM
import Derived.StillTailTactics
import Derived.Test.YtombjkokncepnaaApp
namespace Go.Proofs.Ytombjkokncepnaa
open Go.RowKit

theorem info_debt1 : (Try.prog.info? 42).map (fun i => (i.zero, i.size, i.bytes)) = some (some (.agg #[.int .i64 0, .int .i64 0, .int .i64 0]), 3, 24) := by kernel_rfl
def lenV : Value → Nat
  | .slice _ n _ => n
  | _ => 0
theorem Ow.differD {w : World} {B B' n n' : Nat} {e e' : TypeId} {v v' : Value} {rows rows' : List (List Value)} (h : Ow w B e n v rows) (h' : Ow w B' e' n' v' rows') (hne : e ≠ e') : v.ownBlock = none ∨ v.ownBlock ≠ v'.ownBlock := by
  rcases h.2.2 with ⟨rfl, _⟩ | ⟨g, cap, cur, rfl, _, hh, _⟩
  · exact .inl rfl
  · exact .inr (h'.ne_ hh (fun e => hne e.symm))
theorem net_of (l : List Debt) : netR l = netI 100 (peersOf l) ((peersOf l).map (owedL l)) := by
  cases h : debtsOk l
  · rw [netR, if_neg (by rw [h]; decide), peersOf, if_neg (by rw [h]; decide), netI_end]
    exact .inl (show pick (-1) [] 0 < 0 by decide)
  · rw [peersOf, if_pos h, net_eq h]
theorem peersOf_ok {l : List Debt} (h : 0 < (peersOf l).length) : debtsOk l = true := by
  cases hc : debtsOk l
  · rw [peersOf, if_neg (by rw [hc]; decide)] at h
    simp at h
  · rfl
theorem peersOf_bd (l : List Debt) : Bd ((peersOf l).map (owedL l)) := by
  intro i
  by_cases hi : i < (peersOf l).length
  · have hok := peersOf_ok (l := l) (by omega)
    rw [at_lt (by simpa using hi), List.getElem_map]
    have := owedL_bd l (peersOf l)[i] hok (k := l.length)
    rw [List.take_length] at this
    have := debtsOk_le hok
    omega
  · rw [at_ge (by simpa using hi)]
    decide
theorem owed_succ (l : List Debt) (ps : List Int) {k : Nat} (hk : k < ps.length) : (ps.take (k + 1)).map (owedL l) = (ps.take k).map (owedL l) ++ [owedL l ps[k]] := by
  rw [List.take_succ_eq_append_getElem hk, List.map_append]
  rfl
theorem shiftB_at {T : List Int} {f t : Nat} (hf : f < T.length) (ht : t < T.length) : shiftB T f t = (T.set f (T[f] + min (-T[f]) T[t])).set t (T[t] - min (-T[f]) T[t]) := by
  unfold shiftB
  rw [at_lt hf, at_lt ht]
set_option maxRecDepth 100000 in
set_option maxHeartbeats 8000000 in
theorem i_Net (l : List Debt) (A : Option Addr) (cap : Nat) (w : World) (hl : l.length ≤ 1048576) (hr : Rd w w.heap.size 3 A (l.map Debt.cells)) :
    Calls Try.prog 13 #[.slice A l.length cap] w fun e w' => ∃ A cap, e = .returned (.slice A (netR l).length cap) ∧ Ow w' w.heap.size 42 3 (.slice A (netR l).length cap) ((netR l).map Debt.cells) ∧ Below w.heap.size w w' := by
  have HR := Lib.hid hr
  clear hr
  obtain ⟨i0, hi, hz0, hz1, hz2⟩ := info_parts info_int1
  have HI := Lib.hid hi
  have HZ0 := Lib.hid hz0
  have HZ1 := Lib.hid hz1
  have HZ2 := Lib.hid hz2
  clear hi hz0 hz1 hz2
  obtain ⟨j0, hi, hz0, hz1, hz2⟩ := info_parts info_debt1
  have JI := Lib.hid hi
  have JZ0 := Lib.hid hz0
  have JZ1 := Lib.hid hz1
  have JZ2 := Lib.hid hz2
  clear hi hz0 hz1 hz2
  have HC := fun W q => i_PeersOf l A cap W hl q
  have hn := net_of l
  have hpl := peersOf_len l
  have hpo := @peersOf_ok l
  have hpb := peersOf_bd l
  obtain ⟨ps, hps⟩ : ∃ ps, peersOf l = ps := ⟨_, rfl⟩
  rw [hps] at hn hpl hpb hpo
  simp only [hps] at HC
  obtain ⟨R, hR⟩ : ∃ R, netR l = R := ⟨_, rfl⟩
  rw [hR] at hn ⊢
  have HCC := Lib.hid HC
  have HN := Lib.hid hn
  have HPO := Lib.hid hpo
  have HPB := Lib.hid hpb
  clear HC hn hpo hpb hps hR
  go_enter Try.func13, Try.ntmps13
  go_wp2_with fail
  refine (HCC.out _ HR.out).mono ?_
  rintro e w1 ⟨PA, pcap, rfl, how1, hb1⟩
  have z1 := hb1.size
  have PR := Lib.hid how1.rd
  clear how1
  go_wp2_with fail
  go_loopw [4, 17] (fun vk i wr => ∃ (k : Nat) (B : Option Addr) (cp : Nat), k ≤ ps.length ∧ i = .int .i64 k ∧ vk = .slice B ((ps.take k).map (owedL l)).length cp ∧ Ow wr w1.heap.size 3 1 (.slice B ((ps.take k).map (owedL l)).length cp) (((ps.take k).map (owedL l)).map intCells) ∧ Below w1.heap.size w1 wr) (fun _ i _ => ps.length - (intOf i).toNat)
  case atStart => exact ⟨0, none, 0, Nat.zero_le _, rfl, rfl, Ow.nil_, Below.refl _ _⟩
  case round =>
    obtain ⟨k, B, cp, hk, rfl, rfl, how, hbw⟩ := hrel
    have hbz := hbw.size
    have hrl : ((ps.take k).map (owedL l)).length ≤ 99 := by rw [List.length_map, List.length_take]; omega
    have OB := Lib.hid how.block
    have HW := Lib.hid how
    clear how
    by_cases hlt : k < ps.length
    · obtain ⟨b, off, rfl, hbB, c0⟩ := ints_rd (PR.out.below hbw) hlt
      have HK := Lib.hid (owed_succ l ps hlt)
      obtain ⟨RS, hRS⟩ : ∃ R, (ps.take k).map (owedL l) = R := ⟨_, rfl⟩
      rw [hRS] at hrl OB HW HK ⊢
      clear hRS
      go_wp2_with fail
      refine (i_owed l ps[k] _ _ _ hl ((HR.out.below (by (first | ((repeat' first | (with_reducible (first | exact Below.refl _ _ | assumption | refine Below.setCell ?_ ?_ _ | refine Below.alloc ?_ ?_ _ | refine Below.drew ?_ | refine below_drewN ?_ _ | refine Below.trans ?_ (Below.mono (by assumption) ?_))) | omega | (simp; omega) | (simp; done)); done) | (repeat' first | exact Below.refl _ _ | assumption | refine Below.setCell ?_ (by first | omega | (simp; omega) | (simp; done)) _ | refine Below.alloc ?_ (by first | omega | (simp; omega) | (simp; done)) _ | refine Below.drew ?_ | refine below_drewN ?_ _ | refine Below.trans ?_ (Below.mono (by assumption) (by first | omega | (simp; omega) | (simp; done))))))).more (by omega)) (HPO.out (by omega))).mono ?_
      rintro e w2 ⟨rfl, hb2⟩
      have z2 := hb2.size
      have hbw2 : Below w1.heap.size w1 w2 := by (first | ((repeat' first | (with_reducible (first | exact Below.refl _ _ | assumption | refine Below.setCell ?_ ?_ _ | refine Below.alloc ?_ ?_ _ | refine Below.drew ?_ | refine below_drewN ?_ _ | refine Below.trans ?_ (Below.mono (by assumption) ?_))) | omega | (simp; omega) | (simp; done)); done) | (repeat' first | exact Below.refl _ _ | assumption | refine Below.setCell ?_ (by first | omega | (simp; omega) | (simp; done)) _ | refine Below.alloc ?_ (by first | omega | (simp; omega) | (simp; done)) _ | refine Below.drew ?_ | refine below_drewN ?_ _ | refine Below.trans ?_ (Below.mono (by assumption) (by first | omega | (simp; omega) | (simp; done)))))
      have HW2 := Lib.hid (HW.out.below hb2)
      have OB2 := Lib.hid HW2.out.block
      have KB := Lib.hid (fun o1 (w6 : World) (hgr : (w2.alloc o1).grownBy w6 (Value.slice B RS.length cp).ownBlock) => ((hbw2.alloc (by omega) o1)).grown hgr (by simp; omega) (fun k e => by have := (OB2.out k e).1; omega))
      clear hb2
      obtain ⟨PV, hPV⟩ : ∃ p, owedL l ps[k] = p := ⟨_, rfl⟩
      rw [hPV] at HK ⊢
      clear hPV
      go_wp2_with (at_builtin; refine wpList_app1 rfl _ _ _ rfl w1.heap.size 3 i0 _ 1 8 Try.underlying39 HI.out HZ0.out HZ1.out HZ2.out rfl (by decide) (.slice B RS.length cp) (RS.map intCells) rfl (HW2.out.alloc _) w2.heap.size 1 [.int .i64 PV] 3 rfl (heap_at (by first | rfl | (simp; done))) rfl (by simp [Value.oneCell']) (by rw [List.length_map]; omega) (by decide) (by first | omega | (simp; omega) | (simp; done)) ?_; intro g cap' w6 how6 hgr6 hat6 hlt6; rw [List.length_map] at how6; rw [List.length_map]; have hb6 := KB.out _ _ hgr6; have O6 := Lib.hid how6; clear how6 hgr6 hat6)
      go_roundw
      case rel =>
        refine ⟨k + 1, some ⟨g, 0, none⟩, cap', by omega, by go_num, by rw [HK.out, List.length_append]; rfl, ?_, hb6⟩
        rw [HK.out, List.map_append, List.length_append]
        exact O6.out
      case measure => simp [intOf]; omega
    · obtain rfl : k = ps.length := by omega
      rw [List.take_length] at HW OB hrl ⊢
      have HPL := Lib.hid (show (ps.map (owedL l)).length = ps.length by rw [List.length_map])
      have HPZ := Lib.hid (nz_le (ps.map (owedL l)))
      obtain ⟨S, hS⟩ : ∃ S, ps.map (owedL l) = S := ⟨_, rfl⟩
      rw [hS] at HW OB hrl HN HPB HPL HPZ ⊢
      clear hS
      rcases HW.out.open_ with ⟨h0, hv⟩ | ⟨g, cap', hv, hgB, hgc, hgl⟩
      · have h0' : S = [] := List.map_eq_nil_iff.1 h0
        subst h0'
        obtain ⟨rfl, rfl⟩ : B = none ∧ cp = 0 := by simpa using hv
        have HR0 := Lib.hid (show R = [] by rw [HN.out, netI_end (.inl (by decide))])
        clear h0 hv HW OB hrl
        go_wp2_with fail
        go_loopw [7] (fun vk wr' => vk = .slice none 0 0 ∧ wr' = wr) (fun _ _ => 0)
        case atStart => exact ⟨rfl, rfl⟩
        case round =>
          obtain ⟨rfl, rfl⟩ := hrel
          go_wp2_with fail
          go_loop [8, 9, 30] (fun f t i => f = .int .i64 (-1) ∧ t = .int .i64 (-1) ∧ i = .int .i64 0) (fun _ _ _ => 0)
          case atStart => exact ⟨rfl, rfl, rfl⟩
          case round =>
            obtain ⟨rfl, rfl, rfl⟩ := hrel
            go_wp2_with fail
            go_ret
            rw [HR0.out]
            exact ⟨none, 0, rfl, Ow.nil_, by (first | ((repeat' first | (with_reducible (first | exact Below.refl _ _ | assumption | refine Below.setCell ?_ ?_ _ | refine Below.alloc ?_ ?_ _ | refine Below.drew ?_ | refine below_drewN ?_ _ | refine Below.trans ?_ (Below.mono (by assumption) ?_))) | omega | (simp; omega) | (simp; done)); done) | (repeat' first | exact Below.refl _ _ | assumption | refine Below.setCell ?_ (by first | omega | (simp; omega) | (simp; done)) _ | refine Below.alloc ?_ (by first | omega | (simp; omega) | (simp; done)) _ | refine Below.drew ?_ | refine below_drewN ?_ _ | refine Below.trans ?_ (Below.mono (by assumption) (by first | omega | (simp; omega) | (simp; done)))))⟩
      · rw [List.length_map] at hv
        obtain ⟨rfl, rfl⟩ : B = some ⟨g, 0, none⟩ ∧ cp = cap' := by simpa using hv
        clear hv OB
        obtain ⟨wo, rfl⟩ : ∃ wo : World, wo = wr := ⟨_, rfl⟩
        go_wp2_with fail
        go_loopw [7] (fun vk wr => ∃ (N : Nat) (OUT : List Debt) (T : List Int) (B : Option Addr) (bp : Nat), vk = .slice B OUT.length bp ∧ Ow wr w1.heap.size 42 3 (.slice B OUT.length bp) (OUT.map Debt.cells) ∧ Ow wr w1.heap.size 3 1 (.slice (some ⟨g, 0, none⟩) S.length cp) (T.map intCells) ∧ Hid (T.length = S.length ∧ Bd T ∧ nz T ≤ N ∧ OUT ++ netI N ps T = R) ∧ OUT.length + nz T ≤ 100 ∧ Below w1.heap.size w1 wr) (fun v _ => 101 - lenV v)
        case atStart => exact ⟨100, [], S, none, 0, rfl, Ow.nil_, HW.out, Lib.hid ⟨rfl, HPB.out, by have := HPZ.out; omega, by rw [HN.out]; rfl⟩, by have := HPZ.out; simp; omega, hbw⟩
        case round =>
          clear hbw
          obtain ⟨N, OUT, T, B, bp, rfl, howO, howS, HF, hsum, hbw⟩ := hrel
          have hbz := hbw.size
          have hglt := (howS.block g rfl).2
          have DF := Lib.hid (howS.differD howO (by decide))
          have OB := Lib.hid howO.block
          have HO := Lib.hid howO
          have HS := Lib.hid howS
          clear howO howS
          go_wp2_with fail
          go_loop [8, 9, 30] (fun f t i => ∃ k : Nat, k ≤ S.length ∧ i = .int .i64 k ∧ f = .int .i64 (pick (-1) T k) ∧ t = .int .i64 (pick 1 T k)) (fun _ _ i => S.length - (intOf i).toNat)
          case atStart => exact ⟨0, Nat.zero_le _, rfl, rfl, rfl⟩
          case round =>
            obtain ⟨k, hk, rfl, rfl, rfl⟩ := hrel
            by_cases hlt : k < S.length
            · have hkT : k < T.length := by have := HF.out.1; omega
              have c0 : wr.cell? ⟨g, k, none⟩ = some (.int .i64 T[k]) := HS.out.cellI hkT
              rcases pick_neg T hkT with ⟨a1, a2⟩ | ⟨a1, a2, a3⟩ | ⟨a1, f, hf, a2, a3, a4⟩ | ⟨a1, f, hf, a2, a3, a4⟩
              · have HA := Lib.hid a2
                clear a2
                rcases pick_pos T hkT with ⟨b1, b2⟩ | ⟨b1, b2, b3⟩ | ⟨b1, t, ht, b2, b3, b4⟩ | ⟨b1, t, ht, b2, b3, b4⟩
                · have HB := Lib.hid b2
                  clear b2
                  go_wp2_with fail
                  go_round
                  case rel => exact ⟨k + 1, by omega, by go_num, by rw [HA.out], by rw [HB.out]⟩
                  case measure => simp [intOf]; omega
                · have HB := Lib.hid b3
                  rw [b2]
                  clear b2 b3
                  go_wp2_with fail
                  go_round
                  case rel => exact ⟨k + 1, by omega, by go_num, by rw [HA.out], by rw [HB.out]⟩
                  case measure => simp [intOf]; omega
                all_goals
                  have HB := Lib.hid b4
                  have d0 : wr.cell? ⟨g, t, none⟩ = some (.int .i64 T[t]) := HS.out.cellI ht
                  have htl : t < S.length := by have := HF.out.1; omega
                  rw [b2]
                  clear b2 b4
                  have i1 : (0 : Int) ≤ (t : Int) := by omega
                  have i2 : (t : Int) < (S.length : Int) := by omega
                  have i3 : decide ((t : Int) < 0) = false := decide_eq_false (by omega)
                  go_wp2_with fail
                  go_round
                  case rel => exact ⟨k + 1, by omega, by go_num, by rw [HA.out], by rw [HB.out]⟩
                  case measure => simp [intOf]; omega
              · have HA := Lib.hid a3
                have hneg := of_decide_eq_true a1
                have b1 : decide (0 < T[k]) = false := decide_eq_false (by omega)
                have HB := Lib.hid (show pick 1 T (k + 1) = pick 1 T k by rcases pick_pos T hkT with ⟨_, b⟩ | ⟨b, _⟩ | ⟨b, _⟩ | ⟨b, _⟩ <;> first | exact b | (rw [b1] at b; cases b))
                rw [a2]
                clear a2 a3 hneg
                go_wp2_with fail
                go_round
                case rel => exact ⟨k + 1, by omega, by go_num, by rw [HA.out], by rw [HB.out]⟩
                case measure => simp [intOf]; omega
              all_goals
                have HA := Lib.hid a4
                have hneg := of_decide_eq_true a1
                have b1 : decide (0 < T[k]) = false := decide_eq_false (by omega)
                have HB := Lib.hid (show pick 1 T (k + 1) = pick 1 T k by rcases pick_pos T hkT with ⟨_, b⟩ | ⟨b, _⟩ | ⟨b, _⟩ | ⟨b, _⟩ <;> first | exact b | (rw [b1] at b; cases b))
                have d0 : wr.cell? ⟨g, f, none⟩ = some (.int .i64 T[f]) := HS.out.cellI hf
                have htl : f < S.length := by have := HF.out.1; omega
                rw [a2]
                clear a2 a4 hneg
                have i1 : (0 : Int) ≤ (f : Int) := by omega
                have i2 : (f : Int) < (S.length : Int) := by omega
                have i3 : decide ((f : Int) < 0) = false := decide_eq_false (by omega)
                go_wp2_with fail
                go_round
                case rel => exact ⟨k + 1, by omega, by go_num, by rw [HA.out], by rw [HB.out]⟩
                case measure => simp [intOf]; omega
            · obtain rfl : k = S.length := by omega
              obtain ⟨hT, hbd, hnz, hR⟩ := HF.out
              have HEND := Lib.hid (fun hh => show R = OUT by rw [← hR, netI_end (n := N) (ps := ps) (s := T) (by rw [hT]; exact hh), List.append_nil])
              have HGO := Lib.hid (fun (f t : Nat) h1 h2 => netI_go (n := N) (ps := ps) (s := T) (f := f) (t := t) (by rw [hT]; exact h1) (by rw [hT]; exact h2) hnz (by rw [hT]; exact HPL.out.symm))
              have HPK := Lib.hid (And.intro (pick_lt (-1) T S.length) (pick_lt 1 T S.length))
              have HTL := Lib.hid hT
              have HBD := Lib.hid hbd
              have HRR := Lib.hid hR
              have HNZ := Lib.hid hnz
              clear hT hbd hnz hR HF
              by_cases hF : pick (-1) T S.length < 0
              · have HE := Lib.hid (HEND.out (.inl hF))
                clear HEND HGO
                go_wp2_with fail
                go_ret
                rw [HE.out]
                exact ⟨_, _, rfl, HO.out.more (by omega), by (first | ((repeat' first | (with_reducible (first | exact Below.refl _ _ | assumption | refine Below.setCell ?_ ?_ _ | refine Below.alloc ?_ ?_ _ | refine Below.drew ?_ | refine below_drewN ?_ _ | refine Below.trans ?_ (Below.mono (by assumption) ?_))) | omega | (simp; omega) | (simp; done)); done) | (repeat' first | exact Below.refl _ _ | assumption | refine Below.setCell ?_ (by first | omega | (simp; omega) | (simp; done)) _ | refine Below.alloc ?_ (by first | omega | (simp; omega) | (simp; done)) _ | refine Below.drew ?_ | refine below_drewN ?_ _ | refine Below.trans ?_ (Below.mono (by assumption) (by first | omega | (simp; omega) | (simp; done)))))⟩
              · by_cases hG : pick 1 T S.length < 0
                · have HE := Lib.hid (HEND.out (.inr hG))
                  clear HEND HGO
                  go_wp2_with fail
                  go_ret
                  rw [HE.out]
                  exact ⟨_, _, rfl, HO.out.more (by omega), by (first | ((repeat' first | (with_reducible (first | exact Below.refl _ _ | assumption | refine Below.setCell ?_ ?_ _ | refine Below.alloc ?_ ?_ _ | refine Below.drew ?_ | refine below_drewN ?_ _ | refine Below.trans ?_ (Below.mono (by assumption) ?_))) | omega | (simp; omega) | (simp; done)); done) | (repeat' first | exact Below.refl _ _ | assumption | refine Below.setCell ?_ (by first | omega | (simp; omega) | (simp; done)) _ | refine Below.alloc ?_ (by first | omega | (simp; omega) | (simp; done)) _ | refine Below.drew ?_ | refine below_drewN ?_ _ | refine Below.trans ?_ (Below.mono (by assumption) (by first | omega | (simp; omega) | (simp; done)))))⟩
                · obtain ⟨f, hf⟩ : ∃ f : Nat, pick (-1) T S.length = f := ⟨(pick (-1) T S.length).toNat, by omega⟩
                  obtain ⟨t, ht⟩ : ∃ t : Nat, pick 1 T S.length = t := ⟨(pick 1 T S.length).toNat, by omega⟩
                  obtain ⟨fT, tT, fP, tP, hneg, hpos, hne, hstep, hnz⟩ := HGO.out f t hf ht
                  rw [hf, ht]
                  clear hF hG HEND HGO HPK hf ht
                  obtain ⟨b1, b2⟩ := HBD.out f
                  obtain ⟨b3, b4⟩ := HBD.out t
                  rw [at_lt fT] at b1 b2
                  rw [at_lt tT] at b3 b4
                  have HNB := Lib.hid (HBD.out.step fT tT (by rw [at_lt fT]; exact hneg) (by rw [at_lt tT]; exact hpos))
                  have HSH := Lib.hid (shiftB_at fT tT)
                  have m1 : min (-T[f]) T[t] ≤ -T[f] := by omega
                  have m2 : min (-T[f]) T[t] ≤ T[t] := by omega
                  have m3 : 0 < min (-T[f]) T[t] := by omega
                  have HST := Lib.hid hstep
                  have cF : wr.cell? ⟨g, f, none⟩ = some (.int .i64 T[f]) := HS.out.cellI fT
                  have cT : wr.cell? ⟨g, t, none⟩ = some (.int .i64 T[t]) := HS.out.cellI tT
                  have fS : f < S.length := by have := HTL.out; omega
                  have tS : t < S.length := by have := HTL.out; omega
                  have i1 : (0 : Int) ≤ (f : Int) := by omega
                  have i2 : (f : Int) < (S.length : Int) := by omega
                  have i3 : decide ((f : Int) < 0) = false := decide_eq_false (by omega)
                  have i4 : (0 : Int) ≤ (t : Int) := by omega
                  have i5 : (t : Int) < (S.length : Int) := by omega
                  have i6 : decide ((t : Int) < 0) = false := decide_eq_false (by omega)
                  have i7 : (f : Int) < (ps.length : Int) := by omega
                  have i8 : (t : Int) < (ps.length : Int) := by omega
                  clear hstep
                  obtain ⟨b, off, rfl, hbB, p0⟩ := ints_rd (PR.out.below hbw) fP
                  obtain ⟨b', off', e', _, p1⟩ := ints_rd (PR.out.below hbw) tP
                  simp only [Option.some.injEq, Addr.mk.injEq, and_true] at e'
                  obtain ⟨rfl, rfl⟩ := e'
                  obtain ⟨_, _, ep1, _, p6⟩ := ints_rd PR.out fP
                  simp only [Option.some.injEq, Addr.mk.injEq, and_true] at ep1
                  obtain ⟨rfl, rfl⟩ := ep1
                  obtain ⟨_, _, ep2, hbw1, p7⟩ := ints_rd PR.out tP
                  simp only [Option.some.injEq, Addr.mk.injEq, and_true] at ep2
                  obtain ⟨rfl, rfl⟩ := ep2
                  go_wp2_with fail
                  go_still_tail 9, (by kernel_rfl)
                  change wpList _ _ _ _ _ wr.drew
                  go_wp2_with fail
                  obtain ⟨M, hM⟩ : ∃ M, min (-T[f]) T[t] = M := ⟨_, rfl⟩
                  rw [hM] at m1 m2 m3 HSH HST ⊢
                  clear hM cF cT
                  obtain ⟨wd, hwd⟩ : ∃ wd : World, wr.drew = wd := ⟨_, rfl⟩
                  have p2 : wd.cell? ⟨b, off + f, none⟩ = some (.int .i64 ps[f]) := by rw [← hwd]; exact p0
                  have p3 : wd.cell? ⟨b, off + t, none⟩ = some (.int .i64 ps[t]) := by rw [← hwd]; exact p1
                  have hbd : Below w1.heap.size w1 wd := by rw [← hwd]; exact hbw.drew
                  have hbdz := hbd.size
                  have HOd := Lib.hid (show Ow wd w1.heap.size 42 3 (.slice B OUT.length bp) (OUT.map Debt.cells) by rw [← hwd]; exact HO.out)
                  have HSd := Lib.hid (show Ow wd w1.heap.size 3 1 (.slice (some ⟨g, 0, none⟩) S.length cp) (T.map intCells) by rw [← hwd]; exact HS.out)
                  have OBd := Lib.hid HOd.out.block
                  have hbB2 : b < wd.heap.size := by omega
                  rw [hwd]
                  clear hwd p0 p1
                  have KA := Lib.hid (fun o1 (w6 : World) (hgr : (wd.alloc o1).grownBy w6 (Value.slice B OUT.length bp).ownBlock) => (HSd.out.alloc o1).grown hgr DF.out)
                  have KB := Lib.hid (fun o1 (w6 : World) (hgr : (wd.alloc o1).grownBy w6 (Value.slice B OUT.length bp).ownBlock) => (hbd.alloc (Nat.le_trans (Nat.le_refl _) hbdz) o1).grown hgr (by simp; omega) (fun k e => by have := (OBd.out k e).1; omega))
                  go_region_held3 (fun w' => w'.cell? ⟨b, off + f, none⟩ = some (.int .i64 ps[f]) ∧ w'.cell? ⟨b, off + t, none⟩ = some (.int .i64 ps[t]))
                    (first | exact ⟨p2, p3⟩ | exact ⟨cell_past hbB2 p2, cell_past hbB2 p3⟩ | exact ⟨p4, p5⟩)
                    ((refine step_app1 (by rfl) _ _ _ (by rfl) w1.heap.size 42 j0 _ 3 24 Try.underlying34 JI.out JZ0.out JZ1.out JZ2.out rfl (by decide) (.slice B OUT.length bp) (OUT.map Debt.cells) (by rfl) (HOd.out.alloc _).drew_ wd.heap.size 1 [.int .i64 ps[f], .int .i64 ps[t], .int .i64 M] 42 (by rfl) (heap_drew (heap_at (by first | rfl | (simp; done)))) rfl (by simp [Value.oneCell']) (by rw [List.length_map]; omega) (by decide) (by first | omega | (simp; omega) | (simp; done)) ?_; intro g2 cap2 w6 how6 hgr6 hat6 hlt6; rw [List.length_map] at how6; rw [List.length_map]; have S6 := Lib.hid (KA.out _ _ (grown_undrew hgr6)); have hb6 := KB.out _ _ (grown_undrew hgr6); have O6 := Lib.hid how6; clear how6 hgr6 hat6; have qf := S6.out.cellI fT; have qff := S6.out.frozenAt f; have S7 := Lib.hid (S6.out.setI fT (T[f] + M)); have qt := S7.out.cellI (i := t) (by rw [List.length_set]; exact tT); have qtf := S7.out.frozenAt t; rw [List.getElem_set_ne hne] at qt; have p4 := (hb6.cell (p := ⟨b, off + f, none⟩) (by omega)).trans p6; have p5 := (hb6.cell (p := ⟨b, off + t, none⟩) (by omega)).trans p7))
                  go_wp2_with fail
                  go_roundw
                  case rel =>
                    have DF2 := O6.out.differD S6.out (by decide)
                    have gr1 := grown_set (World.grownBy.refl w6 (some g)) f (.int .i64 (T[f] + M))
                    have gr2 := grown_set gr1 t (.int .i64 (T[t] - M))
                    have hN := HNZ.out
                    have hR := HRR.out
                    refine ⟨N - 1, OUT ++ [⟨ps[f], ps[t], M⟩], (T.set f (T[f] + M)).set t (T[t] - M), some ⟨g2, 0, none⟩, cap2, by simp, ?_, S7.out.setI (by rw [List.length_set]; exact tT) _, Lib.hid ⟨by simp [HTL.out], by rw [← HSH.out]; exact HNB.out, by rw [← HSH.out]; omega, ?_⟩, ?_, by (first | ((repeat' first | (with_reducible (first | exact Below.refl _ _ | assumption | refine Below.setCell ?_ ?_ _ | refine Below.alloc ?_ ?_ _ | refine Below.drew ?_ | refine below_drewN ?_ _ | refine Below.trans ?_ (Below.mono (by assumption) ?_))) | omega | (simp; omega) | (simp; done)); done) | (repeat' first | exact Below.refl _ _ | assumption | refine Below.setCell ?_ (by first | omega | (simp; omega) | (simp; done)) _ | refine Below.alloc ?_ (by first | omega | (simp; omega) | (simp; done)) _ | refine Below.drew ?_ | refine below_drewN ?_ _ | refine Below.trans ?_ (Below.mono (by assumption) (by first | omega | (simp; omega) | (simp; done)))))⟩
                    · rw [List.map_append, List.length_append]
                      exact O6.out.grown gr2 DF2
                    · rw [← HSH.out, ← hR, HST.out, List.append_assoc]
                      rfl
                    · rw [← HSH.out, List.length_append]
                      simp only [List.length_cons, List.length_nil]
                      omega
                  case measure =>
                    simp only [lenV]
                    omega
end Go.Proofs.Ytombjkokncepnaa
