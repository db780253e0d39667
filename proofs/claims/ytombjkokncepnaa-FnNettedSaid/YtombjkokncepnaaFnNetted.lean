/- For every draw: netting leaves what each is owed, with fewer debts than peers: the walk. -/
import Derived.Test.YtombjkokncepnaaRows
import Derived.Test.YtombjkokncepnaaDrawN
import Derived.Test.YtombjkokncepnaaNetr
import Derived.Test.YtombjkokncepnaaRings
import Derived.Test.YtombjkokncepnaaNetS
import Derived.Test.YtombjkokncepnaaOwed
namespace Go.Proofs.Ytombjkokncepnaa
open Go.ChangeShapes Go.WideShapes Go.ChangeAt Go.RowKit

theorem balK_zeros : balK [] 0 = zeros100 := by
  apply List.ext_getElem
  · simp [balK, zeros100]
  · intro i h1 h2
    simp only [balK, zeros100, List.getElem_map, List.getElem_range, List.getElem_replicate]
    rw [if_neg (by omega)]
theorem Ow.zeros {w : World} {B : Nat} {e : TypeId} (hB : B ≤ w.heap.size) : Ow (w.alloc (.cells (madeCells #[Value.int .i64 0] 100) e)) B e 1 (.slice (some ⟨w.heap.size, 0, none⟩) 100 100) (zeros100.map intCells) := by
  rw [← balK_zeros]
  exact Ow.made100 hB
theorem netGo_at : ∀ (n : Nat) (o : List Int), ∀ d ∈ netGo n o, (0 ≤ d.From ∧ d.From < 100) ∧ (0 ≤ d.To ∧ d.To < 100)
  | 0, o, d, hd => by simp [netGo] at hd
  | n + 1, o, d, hd => by
    rw [netGo] at hd
    split at hd
    · simp at hd
    · rcases List.mem_cons.1 hd with rfl | hd
      · have h1 : mostN (-1) o 100 < 100 := most_lt _ _
        have h2 : mostN 1 o 100 < 100 := most_lt _ _
        simp only
        omega
      · exact netGo_at n _ d hd
theorem netR_at (l : List Debt) : ∀ d ∈ netR l, (0 ≤ d.From ∧ d.From < 100) ∧ (0 ≤ d.To ∧ d.To < 100) := by
  unfold netR
  split
  · exact netGo_at 100 _
  · simp
theorem at_set (o : List Int) (i j : Nat) (v : Int) : at_ (o.set i v) j = v ∨ at_ (o.set i v) j = at_ o j := by
  by_cases h : i = j
  · subst h
    by_cases hl : i < o.length
    · exact .inl (at_set_self hl v)
    · exact .inr (by rw [at_ge (by simp; omega), at_ge (by omega)])
  · exact .inr (at_set_ne h v)
theorem applied_bd : ∀ (l : List Debt) (net : List Int) (b : Int), (∀ d ∈ l, 0 ≤ d.Amt ∧ d.Amt ≤ 60000000000) → (∀ i, -b ≤ at_ net i ∧ at_ net i ≤ b) → ∀ i, -(b + l.length * 60000000000) ≤ at_ (l.foldl applyD net) i ∧ at_ (l.foldl applyD net) i ≤ b + l.length * 60000000000
  | [], net, b, _, h, i => by simpa using h i
  | d :: l, net, b, hd, h, i => by
    obtain ⟨d1, d2⟩ := hd d (by simp)
    have key : ∀ i, -(b + 60000000000) ≤ at_ (applyD net d) i ∧ at_ (applyD net d) i ≤ b + 60000000000 := by
      intro i
      unfold applyD
      by_cases e : d.To.toNat = d.From.toNat
      · rw [← e]
        have h0 := h d.To.toNat
        by_cases hl : d.To.toNat < net.length
        · rw [at_set_self hl]
          rcases at_set (net.set d.To.toNat (at_ net d.To.toNat + d.Amt)) d.To.toNat i (at_ net d.To.toNat + d.Amt - d.Amt) with e1 | e1
          · rw [e1]; omega
          · rw [e1]
            rcases at_set net d.To.toNat i (at_ net d.To.toNat + d.Amt) with e2 | e2
            · rw [e2]; omega
            · rw [e2]; have := h i; omega
        · rw [List.set_eq_of_length_le (show net.length ≤ d.To.toNat by omega), List.set_eq_of_length_le (show net.length ≤ d.To.toNat by omega)]
          have := h i; omega
      · rw [at_set_ne e]
        have h0 := h d.To.toNat
        have h1 := h d.From.toNat
        rcases at_set (net.set d.To.toNat (at_ net d.To.toNat + d.Amt)) d.From.toNat i (at_ net d.From.toNat - d.Amt) with e1 | e1
        · rw [e1]; omega
        · rw [e1]
          rcases at_set net d.To.toNat i (at_ net d.To.toNat + d.Amt) with e2 | e2
          · rw [e2]; omega
          · rw [e2]; have := h i; omega
    have := applied_bd l (applyD net d) (b + 60000000000) (fun x hx => hd x (by simp [hx])) key i
    rw [List.foldl_cons, List.length_cons]
    have e : b + ((l.length + 1 : Nat) : Int) * 60000000000 = b + 60000000000 + l.length * 60000000000 := by omega
    rw [e]
    exact this
theorem zeros_at (i : Nat) : at_ zeros100 i = 0 := by
  unfold at_ zeros100
  rw [List.getD_eq_getElem?_getD, List.getElem?_replicate]
  split <;> rfl
theorem netK_bd (l : List Debt) (k : Nat) (i : Nat) : -6000000000000 ≤ at_ (((netR l).take k).foldl applyD zeros100) i ∧ at_ (((netR l).take k).foldl applyD zeros100) i ≤ 6000000000000 := by
  have := applied_bd ((netR l).take k) zeros100 0 (fun d hd => netR_amt l d (List.mem_of_mem_take hd)) (fun i => by rw [zeros_at]; omega) i
  have h2 := netR_len l
  rw [List.length_take] at this
  omega
theorem len_applied : ∀ (l : List Debt) (net : List Int), (l.foldl applyD net).length = net.length
  | [], _ => rfl
  | d :: l, net => by rw [List.foldl_cons, len_applied, len_applyD]
theorem netK_succ {l : List Debt} {k : Nat} (hk : k < l.length) (net : List Int) : (l.take (k + 1)).foldl applyD net = applyD ((l.take k).foldl applyD net) l[k] := foldl_take_succ l _ _ hk
theorem applyD_cast {net : List Int} {f t : Nat} {m : Int} (hf : f < net.length) (ht : t < net.length) : ∃ h : f < (net.set t (net[t] + m)).length, applyD net ⟨f, t, m⟩ = (net.set t (net[t] + m)).set f ((net.set t (net[t] + m))[f] - m) := by
  refine ⟨by simpa using hf, ?_⟩
  unfold applyD
  simp only [Int.toNat_natCast]
  rw [at_lt ht, at_lt (by simpa using hf)]
set_option maxRecDepth 100000 in
set_option maxHeartbeats 8000000 in
theorem l_FnNetted (A : Option Addr) (n cap : Nat) (w : World) (hc : CodeIn w A n cap) :
    Calls Try.prog 4 #[.slice A n cap] w fun e w' => e = .returned (.bool true) ∧ Below w.heap.size w w' := by
  have hnm := hc.len
  unfold maxLen at hnm
  by_cases hn : n ≤ 1048576
  · have HC := Lib.hid (hc.code hn)
    clear hc
    obtain ⟨i0, hi, hz0, hz1, hz2⟩ := info_parts info_int1
    have hmk := fun W => run_make (P := Try.prog) W 39 3 i0 _ Try.underlying39 hi hz0 .i64 .i64 100 100 (by decide) (by decide) (by rw [hz2]; decide) (by decide)
    rw [hz1] at hmk
    clear hi hz0 hz1 hz2
    have HMK := Lib.hid hmk
    clear hmk
    go_enter Try.func4, Try.ntmps4
    go_wp2_with fail
    refine (s_DrawNet A n cap _ HC.out).mono ?_
    rintro e w1 ⟨l, A1, cap1, rfl, hl, hrd, hb1⟩
    have z1 := hb1.size
    have HR := Lib.hid hrd
    clear hrd
    go_wp2_with fail
    refine (i_Net l A1 cap1 _ (by omega) HR.out).mono ?_
    rintro e w2 ⟨A2, cap2, rfl, how2, hb2⟩
    have z2 := hb2.size
    have HM := Lib.hid how2.rd
    clear how2
    have B2 : Below w.heap.size w w2 := by (first | ((repeat' first | (with_reducible (first | exact Below.refl _ _ | assumption | refine Below.setCell ?_ ?_ _ | refine Below.alloc ?_ ?_ _ | refine Below.drew ?_ | refine below_drewN ?_ _ | refine Below.trans ?_ (Below.mono (by assumption) ?_))) | omega | (simp; omega) | (simp; done)); done) | (repeat' first | exact Below.refl _ _ | assumption | refine Below.setCell ?_ (by first | omega | (simp; omega) | (simp; done)) _ | refine Below.alloc ?_ (by first | omega | (simp; omega) | (simp; done)) _ | refine Below.drew ?_ | refine below_drewN ?_ _ | refine Below.trans ?_ (Below.mono (by assumption) (by first | omega | (simp; omega) | (simp; done)))))
    go_wp2_with fail
    refine (s_Net l A1 cap1 _ (by omega) ((HR.out.below hb2).more (by omega))).mono ?_
    rintro e w3 ⟨A3, cap3, rfl, _, hb3⟩
    have z3 := hb3.size
    have B3 : Below w.heap.size w w3 := by (first | ((repeat' first | (with_reducible (first | exact Below.refl _ _ | assumption | refine Below.setCell ?_ ?_ _ | refine Below.alloc ?_ ?_ _ | refine Below.drew ?_ | refine below_drewN ?_ _ | refine Below.trans ?_ (Below.mono (by assumption) ?_))) | omega | (simp; omega) | (simp; done)); done) | (repeat' first | exact Below.refl _ _ | assumption | refine Below.setCell ?_ (by first | omega | (simp; omega) | (simp; done)) _ | refine Below.alloc ?_ (by first | omega | (simp; omega) | (simp; done)) _ | refine Below.drew ?_ | refine below_drewN ?_ _ | refine Below.trans ?_ (Below.mono (by assumption) (by first | omega | (simp; omega) | (simp; done)))))
    have C3 : Below w1.heap.size w1 w3 := hb2.trans (hb3.mono z2)
    go_wp2_with fail
    refine (s_DebtsOk l A1 cap1 _ (by omega) ((HR.out.below C3).more (by omega))).mono ?_
    rintro e w4 ⟨rfl, hb4⟩
    have z4 := hb4.size
    have B4 : Below w.heap.size w w4 := by (first | ((repeat' first | (with_reducible (first | exact Below.refl _ _ | assumption | refine Below.setCell ?_ ?_ _ | refine Below.alloc ?_ ?_ _ | refine Below.drew ?_ | refine below_drewN ?_ _ | refine Below.trans ?_ (Below.mono (by assumption) ?_))) | omega | (simp; omega) | (simp; done)); done) | (repeat' first | exact Below.refl _ _ | assumption | refine Below.setCell ?_ (by first | omega | (simp; omega) | (simp; done)) _ | refine Below.alloc ?_ (by first | omega | (simp; omega) | (simp; done)) _ | refine Below.drew ?_ | refine below_drewN ?_ _ | refine Below.trans ?_ (Below.mono (by assumption) (by first | omega | (simp; omega) | (simp; done)))))
    have C4 : Below w1.heap.size w1 w4 := C3.trans (hb4.mono (by omega))
    have D4 : Below w2.heap.size w2 w4 := hb3.trans (hb4.mono z3)
    clear hb1 hb2 hb3 hb4 B2 B3 C3
    cases hok : debtsOk l
    · have hnil : netR l = [] := by simp [netR, hok]
      have h0 : ringsR l = 0 := by simp [ringsR, hok]
      rw [hnil]
      go_wp2_with fail
      refine (i_Rings l A1 cap1 _ (by omega) ((HR.out.below C4).more (by omega))).mono ?_
      rintro e w5 ⟨rfl, hb5⟩
      rw [h0]
      go_wp2_with fail
      go_ret
      exact ⟨rfl, by (first | ((repeat' first | (with_reducible (first | exact Below.refl _ _ | assumption | refine Below.setCell ?_ ?_ _ | refine Below.alloc ?_ ?_ _ | refine Below.drew ?_ | refine below_drewN ?_ _ | refine Below.trans ?_ (Below.mono (by assumption) ?_))) | omega | (simp; omega) | (simp; done)); done) | (repeat' first | exact Below.refl _ _ | assumption | refine Below.setCell ?_ (by first | omega | (simp; omega) | (simp; done)) _ | refine Below.alloc ?_ (by first | omega | (simp; omega) | (simp; done)) _ | refine Below.drew ?_ | refine below_drewN ?_ _ | refine Below.trans ?_ (Below.mono (by assumption) (by first | omega | (simp; omega) | (simp; done)))))⟩
    · have HP := Lib.hid (show peersOf l = peersL l by rw [peersOf, if_pos hok])
      have HF := Lib.hid (fewer hok)
      have HRN := Lib.hid (rings_nn hok)
      have HNT := Lib.hid (fun (p : Nat) (hp : p < 100) => netted hok hp)
      have HO := Lib.hid (fun p => show owedR l p = owedL l p by rw [owedR, if_pos hok])
      have HNM := Lib.hid (netR_amt l)
      have HNA := Lib.hid (netR_at l)
      have hnl := netR_len l
      have HBD := Lib.hid (netK_bd l)
      clear hok
      go_wp2_with fail
      refine (i_PeersOf l A1 cap1 _ (by omega) ((HR.out.below C4).more (by omega))).mono ?_
      rintro e w5 ⟨A5, cap5, rfl, _, hb5⟩
      have z5 := hb5.size
      rw [HP.out]
      have B5 : Below w.heap.size w w5 := by (first | ((repeat' first | (with_reducible (first | exact Below.refl _ _ | assumption | refine Below.setCell ?_ ?_ _ | refine Below.alloc ?_ ?_ _ | refine Below.drew ?_ | refine below_drewN ?_ _ | refine Below.trans ?_ (Below.mono (by assumption) ?_))) | omega | (simp; omega) | (simp; done)); done) | (repeat' first | exact Below.refl _ _ | assumption | refine Below.setCell ?_ (by first | omega | (simp; omega) | (simp; done)) _ | refine Below.alloc ?_ (by first | omega | (simp; omega) | (simp; done)) _ | refine Below.drew ?_ | refine below_drewN ?_ _ | refine Below.trans ?_ (Below.mono (by assumption) (by first | omega | (simp; omega) | (simp; done)))))
      have C5 : Below w1.heap.size w1 w5 := C4.trans (hb5.mono (by omega))
      have D5 : Below w2.heap.size w2 w5 := D4.trans (hb5.mono (by omega))
      clear hb5 B4 C4 D4
      obtain ⟨NR, hNR⟩ : ∃ R, netR l = R := ⟨_, rfl⟩
      rw [hNR] at HM HF HNT HNM HNA HBD hnl ⊢
      clear hNR
      obtain ⟨PN, hPN⟩ : ∃ R, (peersL l).length = R := ⟨_, rfl⟩
      have hpl := peersL_len l
      rw [hPN] at HF hpl ⊢
      clear hPN
      have hmk1 := HMK.out w5
      have HZ := Lib.hid (Ow.zeros (w := w5) (B := w2.heap.size) (e := 3) (by omega))
      obtain ⟨G, hG⟩ : ∃ G, w5.heap.size = G := ⟨_, rfl⟩
      rw [hG] at HZ hmk1
      have HGE := Lib.hid hG
      have hGz : w2.heap.size ≤ G := by omega
      have B6 : Below w.heap.size w (w5.alloc (.cells (madeCells #[Value.int .i64 0] 100) 3)) := by (first | ((repeat' first | (with_reducible (first | exact Below.refl _ _ | assumption | refine Below.setCell ?_ ?_ _ | refine Below.alloc ?_ ?_ _ | refine Below.drew ?_ | refine below_drewN ?_ _ | refine Below.trans ?_ (Below.mono (by assumption) ?_))) | omega | (simp; omega) | (simp; done)); done) | (repeat' first | exact Below.refl _ _ | assumption | refine Below.setCell ?_ (by first | omega | (simp; omega) | (simp; done)) _ | refine Below.alloc ?_ (by first | omega | (simp; omega) | (simp; done)) _ | refine Below.drew ?_ | refine below_drewN ?_ _ | refine Below.trans ?_ (Below.mono (by assumption) (by first | omega | (simp; omega) | (simp; done)))))
      have C6 : Below w1.heap.size w1 (w5.alloc (.cells (madeCells #[Value.int .i64 0] 100) 3)) := C5.alloc (by omega) _
      have D6 : Below w2.heap.size w2 (w5.alloc (.cells (madeCells #[Value.int .i64 0] 100) 3)) := D5.alloc (by omega) _
      clear B5 C5 D5
      go_wp2_with fail
      go_loopw [39] (fun i wr => ∃ k : Nat, k ≤ NR.length ∧ i = .int .i64 k ∧ Ow wr w2.heap.size 3 1 (.slice (some ⟨G, 0, none⟩) 100 100) (((NR.take k).foldl applyD zeros100).map intCells) ∧ G < wr.heap.size ∧ Below w.heap.size w wr ∧ Below w1.heap.size w1 wr ∧ Below w2.heap.size w2 wr) (fun i _ => NR.length - (intOf i).toNat)
      case atStart => exact ⟨0, Nat.zero_le _, rfl, HZ.out, by simp; omega, B6, C6, D6⟩
      case round =>
        clear B6 C6 D6 hmk1
        obtain ⟨k, hk, rfl, how, hGw, hbw, hbw1, hbw2⟩ := hrel
        have hbz := hbw2.size
        have HW := Lib.hid how
        clear how
        by_cases hlt : k < NR.length
        · obtain ⟨b, off, rfl, hbB, c0, c1, c2⟩ := Debt.rd (HM.out.below hbw2) hlt
          obtain ⟨m1, m2⟩ := HNM.out _ (List.getElem_mem hlt)
          obtain ⟨⟨f1, f2⟩, t1, t2⟩ := HNA.out _ (List.getElem_mem hlt)
          have HS := Lib.hid (netK_succ hlt zeros100)
          have HB := Lib.hid (HBD.out k)
          have hlen : ((NR.take k).foldl applyD zeros100).length = 100 := by rw [len_applied]; rfl
          obtain ⟨net, hnet⟩ : ∃ x, (NR.take k).foldl applyD zeros100 = x := ⟨_, rfl⟩
          rw [hnet] at HW HS HB hlen
          clear hnet
          obtain ⟨d, hd⟩ : ∃ d, NR[k] = d := ⟨_, rfl⟩
          rw [hd] at c0 c1 c2 m1 m2 f1 f2 t1 t2 HS
          clear hd
          obtain ⟨F, T, M⟩ := d
          simp only at c0 c1 c2 m1 m2 f1 f2 t1 t2
          obtain ⟨f, rfl⟩ := Int.eq_ofNat_of_zero_le f1
          obtain ⟨t, rfl⟩ := Int.eq_ofNat_of_zero_le t1
          have fT : f < net.length := by omega
          have tT : t < net.length := by omega
          obtain ⟨fS, hS2⟩ := applyD_cast (m := M) fT tT
          have HS2 := Lib.hid (HS.out.trans hS2)
          clear hS2
          obtain ⟨g1, g2⟩ := HB.out t
          obtain ⟨g3, g4⟩ := HB.out f
          rw [at_lt tT] at g1 g2
          rw [at_lt fT] at g3 g4
          have g5 : -6000000000000 ≤ (net.set t (net[t] + M))[f] ∧ (net.set t (net[t] + M))[f] ≤ 6060000000000 := by
            rw [List.getElem_set]
            split <;> omega
          obtain ⟨g5, g6⟩ := g5
          have qt := HW.out.cellI tT
          have qtf := HW.out.frozenAt t
          have S7 := Lib.hid (HW.out.setI tT (net[t] + M))
          have q2 := S7.out.cellI fS
          have q2f := S7.out.frozenAt f
          obtain ⟨NF, hNF⟩ : ∃ x, (net.set t (net[t] + M))[f] = x := ⟨_, rfl⟩
          rw [hNF] at q2 g5 g6
          have HNF := Lib.hid hNF
          clear hNF
          obtain ⟨NT, hNT⟩ : ∃ x, net[t] = x := ⟨_, rfl⟩
          rw [hNT] at q2 q2f qt g1 g2
          have HNT2 := Lib.hid hNT
          clear hNT
          have i1 : (t : Int) < 100 := by omega
          have i2 : (f : Int) < 100 := by omega
          have hGne : wr.heap.size ≠ G := by omega
          go_wp2_with fail
          go_region
          go_wp2_with fail
          go_region
          go_wp2_with fail
          go_roundw
          case rel =>
            refine ⟨k + 1, by omega, by go_num, ?_, by simp; omega, by (first | ((repeat' first | (with_reducible (first | exact Below.refl _ _ | assumption | refine Below.setCell ?_ ?_ _ | refine Below.alloc ?_ ?_ _ | refine Below.drew ?_ | refine below_drewN ?_ _ | refine Below.trans ?_ (Below.mono (by assumption) ?_))) | omega | (simp; omega) | (simp; done)); done) | (repeat' first | exact Below.refl _ _ | assumption | refine Below.setCell ?_ (by first | omega | (simp; omega) | (simp; done)) _ | refine Below.alloc ?_ (by first | omega | (simp; omega) | (simp; done)) _ | refine Below.drew ?_ | refine below_drewN ?_ _ | refine Below.trans ?_ (Below.mono (by assumption) (by first | omega | (simp; omega) | (simp; done))))), ?_, ?_⟩
            · have e1 := S7.out.setI fS ((net.set t (net[t] + M))[f] - M)
              rw [← HS2.out, HNF.out, HNT2.out] at e1
              exact e1.alloc _
            · (first | ((repeat' first | (with_reducible (first | exact Below.refl _ _ | assumption | refine Below.setCell ?_ ?_ _ | refine Below.alloc ?_ ?_ _ | refine Below.drew ?_ | refine below_drewN ?_ _ | refine Below.trans ?_ (Below.mono (by assumption) ?_))) | omega | (simp; omega) | (simp; done)); done) | (repeat' first | exact Below.refl _ _ | assumption | refine Below.setCell ?_ (by first | omega | (simp; omega) | (simp; done)) _ | refine Below.alloc ?_ (by first | omega | (simp; omega) | (simp; done)) _ | refine Below.drew ?_ | refine below_drewN ?_ _ | refine Below.trans ?_ (Below.mono (by assumption) (by first | omega | (simp; omega) | (simp; done)))))
            · (first | ((repeat' first | (with_reducible (first | exact Below.refl _ _ | assumption | refine Below.setCell ?_ ?_ _ | refine Below.alloc ?_ ?_ _ | refine Below.drew ?_ | refine below_drewN ?_ _ | refine Below.trans ?_ (Below.mono (by assumption) ?_))) | omega | (simp; omega) | (simp; done)); done) | (repeat' first | exact Below.refl _ _ | assumption | refine Below.setCell ?_ (by first | omega | (simp; omega) | (simp; done)) _ | refine Below.alloc ?_ (by first | omega | (simp; omega) | (simp; done)) _ | refine Below.drew ?_ | refine below_drewN ?_ _ | refine Below.trans ?_ (Below.mono (by assumption) (by first | omega | (simp; omega) | (simp; done)))))
          case measure => simp [intOf]; omega
        · obtain rfl : k = NR.length := by omega
          rw [List.take_length] at HW
          have hlen : (NR.foldl applyD zeros100).length = 100 := by rw [len_applied]; rfl
          have HB := Lib.hid (HBD.out NR.length)
          rw [List.take_length] at HB
          obtain ⟨net, hnet⟩ : ∃ x, NR.foldl applyD zeros100 = x := ⟨_, rfl⟩
          rw [hnet] at HW HNT HB hlen
          clear hnet
          obtain ⟨wo, rfl⟩ : ∃ wo : World, wo = wr := ⟨_, rfl⟩
          go_wp2_with fail
          go_loopw [9] (fun i wr => ∃ p : Nat, 1 ≤ p ∧ p ≤ 100 ∧ i = .int .i64 p ∧ Ow wr w2.heap.size 3 1 (.slice (some ⟨G, 0, none⟩) 100 100) (net.map intCells) ∧ Below w.heap.size w wr ∧ Below w1.heap.size w1 wr) (fun i _ => 100 - (intOf i).toNat)
          case atStart => exact ⟨1, by decide, by decide, rfl, HW.out, hbw, hbw1⟩
          case round =>
            clear hbw hbw1 hbw2 hbz
            obtain ⟨p, hp1, hp2, rfl, how, hbw, hbw1⟩ := hrel
            have hbz := hbw1.size
            have HW := Lib.hid how
            clear how
            by_cases hlt : p ≤ 99
            · have hple : decide ((p : Int) ≤ 99) = true := decide_eq_true (by omega)
              have hpn : p < net.length := by omega
              have qc := HW.out.cellI hpn
              have hv : net[p] = owedL l p := by rw [← at_lt hpn]; exact HNT.out p (by omega)
              rw [hv] at qc
              have HR2 := Lib.hid ((HR.out.below hbw1).more hbz)
              have i1 : (p : Int) < 100 := by omega
              go_wp2_with fail
              go_region_held3 (fun w' => w'.cell? ⟨G, p, none⟩ = some (.int .i64 (owedL l p))) (first | exact qc | exact d0)
                ((go_at_call 18; refine (i_Owed l p A1 cap1 wr.drew (by omega) (HR2.out.below ((Below.refl _ _).drew))).mono ?_; rintro e w6 ⟨rfl, hb6⟩; rw [HO.out]; have z6 := hb6.size; have hb6' : Below wr.heap.size wr w6 := ((Below.refl _ _).drew).trans hb6; have W6 := Lib.hid (HW.out.below hb6'); have d0 := W6.out.cellI hpn; rw [hv] at d0))
              go_wp2_with fail
              go_roundw
              case rel => exact ⟨p + 1, by omega, by omega, by go_num, W6.out, by (first | ((repeat' first | (with_reducible (first | exact Below.refl _ _ | assumption | refine Below.setCell ?_ ?_ _ | refine Below.alloc ?_ ?_ _ | refine Below.drew ?_ | refine below_drewN ?_ _ | refine Below.trans ?_ (Below.mono (by assumption) ?_))) | omega | (simp; omega) | (simp; done)); done) | (repeat' first | exact Below.refl _ _ | assumption | refine Below.setCell ?_ (by first | omega | (simp; omega) | (simp; done)) _ | refine Below.alloc ?_ (by first | omega | (simp; omega) | (simp; done)) _ | refine Below.drew ?_ | refine below_drewN ?_ _ | refine Below.trans ?_ (Below.mono (by assumption) (by first | omega | (simp; omega) | (simp; done))))), hbw1.trans (Below.mono hb6' (by omega))⟩
              case measure => simp [intOf]; omega
            · have hple : decide ((p : Int) ≤ 99) = false := decide_eq_false (by omega)
              obtain ⟨RR, hRR⟩ : ∃ x, ringsR l = x := ⟨_, rfl⟩
              have hrn : decide (0 ≤ RR) = true := decide_eq_true (by rw [← hRR]; exact HRN.out)
              by_cases h0 : PN = 0
              · subst h0
                go_wp2_with fail
                refine (i_Rings l A1 cap1 _ (by omega) ((HR.out.below hbw1).more (by omega))).mono ?_
                rintro e w7 ⟨rfl, hb7⟩
                rw [hRR]
                go_wp2_with fail
                go_ret
                exact ⟨rfl, by (first | ((repeat' first | (with_reducible (first | exact Below.refl _ _ | assumption | refine Below.setCell ?_ ?_ _ | refine Below.alloc ?_ ?_ _ | refine Below.drew ?_ | refine below_drewN ?_ _ | refine Below.trans ?_ (Below.mono (by assumption) ?_))) | omega | (simp; omega) | (simp; done)); done) | (repeat' first | exact Below.refl _ _ | assumption | refine Below.setCell ?_ (by first | omega | (simp; omega) | (simp; done)) _ | refine Below.alloc ?_ (by first | omega | (simp; omega) | (simp; done)) _ | refine Below.drew ?_ | refine below_drewN ?_ _ | refine Below.trans ?_ (Below.mono (by assumption) (by first | omega | (simp; omega) | (simp; done)))))⟩
              · have h1 := HF.out.resolve_left h0
                have e0 : ((PN : Int) == 0) = false := by simp; omega
                go_wp2_with fail
                refine (i_Rings l A1 cap1 _ (by omega) ((HR.out.below hbw1).more (by omega))).mono ?_
                rintro e w7 ⟨rfl, hb7⟩
                rw [hRR]
                go_wp2_with fail
                go_ret
                exact ⟨rfl, by (first | ((repeat' first | (with_reducible (first | exact Below.refl _ _ | assumption | refine Below.setCell ?_ ?_ _ | refine Below.alloc ?_ ?_ _ | refine Below.drew ?_ | refine below_drewN ?_ _ | refine Below.trans ?_ (Below.mono (by assumption) ?_))) | omega | (simp; omega) | (simp; done)); done) | (repeat' first | exact Below.refl _ _ | assumption | refine Below.setCell ?_ (by first | omega | (simp; omega) | (simp; done)) _ | refine Below.alloc ?_ (by first | omega | (simp; omega) | (simp; done)) _ | refine Below.drew ?_ | refine below_drewN ?_ _ | refine Below.trans ?_ (Below.mono (by assumption) (by first | omega | (simp; omega) | (simp; done)))))⟩
  · have hn' : decide ((1048576 : Int) < (n : Int)) = true := decide_eq_true (by omega)
    go_enter Try.func4, Try.ntmps4
    go_wp2_with fail
    go_ret
    exact ⟨rfl, Below.refl _ _⟩
end Go.Proofs.Ytombjkokncepnaa
