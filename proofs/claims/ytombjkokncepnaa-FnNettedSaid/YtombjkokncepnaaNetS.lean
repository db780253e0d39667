/- Netting: the walk of the reference. -/
import Derived.Test.YtombjkokncepnaaRows
import Derived.Test.YtombjkokncepnaaNetI
namespace Go.Proofs.Ytombjkokncepnaa
open Go.RowKit

def balK (l : List Debt) (n : Nat) : List Int := (List.range 100).map fun i : Nat => if 1 ≤ i ∧ i ≤ n then owedL l i else 0
theorem balK_len (l : List Debt) (n : Nat) : (balK l n).length = 100 := by simp [balK]
theorem balK_succ (l : List Debt) {n : Nat} : (balK l n).set (n + 1) (owedL l ((n : Int) + 1)) = balK l (n + 1) := by
  apply List.ext_getElem
  · simp [balK]
  · intro i h1 h2
    have hi : i < 100 := by simpa [balK] using h2
    rw [List.getElem_set]
    simp only [balK, List.getElem_map, List.getElem_range]
    by_cases he : n + 1 = i
    · subst he
      rw [if_pos rfl, if_pos (by omega)]
      rfl
    · rw [if_neg he]
      by_cases h : 1 ≤ i ∧ i ≤ n
      · rw [if_pos h, if_pos (by omega)]
      · rw [if_neg h, if_neg (by omega)]
theorem balK_all {l : List Debt} (h : debtsOk l = true) : balK l 99 = bal0 l := by
  unfold balK bal0
  refine List.map_congr_left fun i hi => ?_
  have hi := List.mem_range.1 hi
  by_cases h1 : 1 ≤ i
  · rw [if_pos (by omega)]
  · obtain rfl : i = 0 := by omega
    rw [if_neg (by omega)]
    have := (inv0 h).zero
    rw [at_bal0 l (by omega)] at this
    exact this.symm
theorem made_zero : (madeCells #[Value.int .i64 0] 100).toList = ((balK [] 0).map intCells).flatten := by
  rw [ints_flat]
  apply List.ext_getElem
  · simp [madeCells, balK]
  · intro i h1 h2
    simp [madeCells, balK, Nat.mod_one]
    omega
theorem Ow.made100 {w : World} {B : Nat} {e : TypeId} (hB : B ≤ w.heap.size) : Ow (w.alloc (.cells (madeCells #[Value.int .i64 0] 100) e)) B e 1 (.slice (some ⟨w.heap.size, 0, none⟩) 100 100) ((balK [] 0).map intCells) := by
  refine ⟨ints_uni _, ?_, .inr ⟨w.heap.size, 100, _, rfl, hB, heap_at rfl, ?_, by decide, by rw [size_madeCells], ?_⟩⟩
  · rfl
  · exact Nat.le_refl _
  · rw [made_zero, List.take_of_length_le]
    rw [flatten_size _ 1 (ints_uni _), List.length_map, balK_len]
    decide
theorem balK_zero (l : List Debt) : balK l 0 = balK [] 0 := by
  unfold balK
  refine List.map_congr_left fun i _ => ?_
  rw [if_neg (by omega), if_neg (by omega)]
theorem s_l19Most100 (o : List Int) (t : Int) (ht : t = 1 ∨ t = -1) (hi : NInv o) (A : Option Addr) (w : World) (hr : Rd w w.heap.size 1 A (o.map intCells)) :
    Calls Try.prog 49 #[.slice A 100 100, .int .i64 t] w fun e w' => e = .returned (.int .i64 (mostN t o 100 : Nat)) ∧ Below w.heap.size w w' := by
  have h := s_l19Most o t ht hi.bd A 100 w (by rw [hi.len]; decide) (by rw [hi.len]; decide) hr
  rw [hi.len] at h
  exact h
set_option maxRecDepth 100000 in
set_option maxHeartbeats 8000000 in
theorem s_Net (l : List Debt) (A : Option Addr) (cap : Nat) (w : World) (hl : l.length ≤ 1048576) (hr : Rd w w.heap.size 3 A (l.map Debt.cells)) :
    Calls Try.prog 14 #[.slice A l.length cap] w fun e w' => ∃ A cap, e = .returned (.slice A (netR l).length cap) ∧ Ow w' w.heap.size 42 3 (.slice A (netR l).length cap) ((netR l).map Debt.cells) ∧ Below w.heap.size w w' := by
  have HR := Lib.hid hr
  clear hr
  obtain ⟨j0, hi, hz0, hz1, hz2⟩ := info_parts info_debt1
  have JI := Lib.hid hi
  have JZ0 := Lib.hid hz0
  have JZ1 := Lib.hid hz1
  have JZ2 := Lib.hid hz2
  clear hi hz0 hz1 hz2
  obtain ⟨i0, hi, hz0, hz1, hz2⟩ := info_parts info_int1
  have hmk := fun W => run_make (P := Try.prog) W 39 3 i0 _ Try.underlying39 hi hz0 .i64 .i64 100 100 (by decide) (by decide) (by rw [hz2]; decide) (by decide)
  rw [hz1] at hmk
  clear hi hz0 hz1 hz2
  have HE0 := Lib.hid (Ow.empty_ (w := w) (g := w.heap.size) (e := 42) (size := 3) (B := w.heap.size) rfl (Nat.le_refl _))
  cases hok : debtsOk l
  · have H1 := Lib.hid (show netR l = [] by simp [netR, hok])
    have HOK := Lib.hid hok
    clear hok hmk
    go_enter Try.func14, Try.ntmps14
    go_wp2_with fail
    refine (s_DebtsOk l _ _ _ hl ((HR.out.below (by (first | ((repeat' first | (with_reducible (first | exact Below.refl _ _ | assumption | refine Below.setCell ?_ ?_ _ | refine Below.alloc ?_ ?_ _ | refine Below.drew ?_ | refine below_drewN ?_ _ | refine Below.trans ?_ (Below.mono (by assumption) ?_))) | omega | (simp; omega) | (simp; done)); done) | (repeat' first | exact Below.refl _ _ | assumption | refine Below.setCell ?_ (by first | omega | (simp; omega) | (simp; done)) _ | refine Below.alloc ?_ (by first | omega | (simp; omega) | (simp; done)) _ | refine Below.drew ?_ | refine below_drewN ?_ _ | refine Below.trans ?_ (Below.mono (by assumption) (by first | omega | (simp; omega) | (simp; done))))))).more (by simp))).mono ?_
    rintro e w1 ⟨rfl, hb1⟩
    have HE := Lib.hid (HE0.out.below hb1)
    rw [HOK.out]
    go_wp2_with fail
    go_ret
    rw [H1.out]
    exact ⟨_, _, rfl, HE.out, by (first | ((repeat' first | (with_reducible (first | exact Below.refl _ _ | assumption | refine Below.setCell ?_ ?_ _ | refine Below.alloc ?_ ?_ _ | refine Below.drew ?_ | refine below_drewN ?_ _ | refine Below.trans ?_ (Below.mono (by assumption) ?_))) | omega | (simp; omega) | (simp; done)); done) | (repeat' first | exact Below.refl _ _ | assumption | refine Below.setCell ?_ (by first | omega | (simp; omega) | (simp; done)) _ | refine Below.alloc ?_ (by first | omega | (simp; omega) | (simp; done)) _ | refine Below.drew ?_ | refine below_drewN ?_ _ | refine Below.trans ?_ (Below.mono (by assumption) (by first | omega | (simp; omega) | (simp; done)))))⟩
  · have hn : netR l = netGo 100 (bal0 l) := by simp [netR, hok]
    have hinv := inv0 hok
    have HBA := Lib.hid (balK_all hok)
    obtain ⟨R, hR⟩ : ∃ R, netR l = R := ⟨_, rfl⟩
    rw [hR] at hn ⊢
    have HN := Lib.hid hn
    have HV := Lib.hid hinv
    have h60 := debtsOk_le hok
    have HOK := Lib.hid hok
    clear hok hn hinv hR
    go_enter Try.func14, Try.ntmps14
    go_wp2_with fail
    refine (s_DebtsOk l _ _ _ hl ((HR.out.below (by (first | ((repeat' first | (with_reducible (first | exact Below.refl _ _ | assumption | refine Below.setCell ?_ ?_ _ | refine Below.alloc ?_ ?_ _ | refine Below.drew ?_ | refine below_drewN ?_ _ | refine Below.trans ?_ (Below.mono (by assumption) ?_))) | omega | (simp; omega) | (simp; done)); done) | (repeat' first | exact Below.refl _ _ | assumption | refine Below.setCell ?_ (by first | omega | (simp; omega) | (simp; done)) _ | refine Below.alloc ?_ (by first | omega | (simp; omega) | (simp; done)) _ | refine Below.drew ?_ | refine below_drewN ?_ _ | refine Below.trans ?_ (Below.mono (by assumption) (by first | omega | (simp; omega) | (simp; done))))))).more (by simp))).mono ?_
    rintro e w1 ⟨rfl, hb1⟩
    have z1 := hb1.size
    try simp at z1
    have HE := Lib.hid (HE0.out.below hb1)
    have hA1 : Below w.heap.size w w1 := by (first | ((repeat' first | (with_reducible (first | exact Below.refl _ _ | assumption | refine Below.setCell ?_ ?_ _ | refine Below.alloc ?_ ?_ _ | refine Below.drew ?_ | refine below_drewN ?_ _ | refine Below.trans ?_ (Below.mono (by assumption) ?_))) | omega | (simp; omega) | (simp; done)); done) | (repeat' first | exact Below.refl _ _ | assumption | refine Below.setCell ?_ (by first | omega | (simp; omega) | (simp; done)) _ | refine Below.alloc ?_ (by first | omega | (simp; omega) | (simp; done)) _ | refine Below.drew ?_ | refine below_drewN ?_ _ | refine Below.trans ?_ (Below.mono (by assumption) (by first | omega | (simp; omega) | (simp; done)))))
    clear hb1
    rw [HOK.out]
    have HM0 := Lib.hid (Ow.made100 (w := w1) (B := w.heap.size) (e := 3) (by omega))
    have HO := Lib.hid (fun p => show owedR l p = owedL l p by rw [owedR, if_pos HOK.out])
    obtain ⟨G, hG⟩ : ∃ G, w1.heap.size = G := ⟨_, rfl⟩
    rw [hG] at HM0
    have HGE := Lib.hid hG
    have hGz : w.heap.size < G := by omega
    have hA2 : Below w.heap.size w (w1.alloc (.cells (madeCells #[Value.int .i64 0] 100) 3)) := by (first | ((repeat' first | (with_reducible (first | exact Below.refl _ _ | assumption | refine Below.setCell ?_ ?_ _ | refine Below.alloc ?_ ?_ _ | refine Below.drew ?_ | refine below_drewN ?_ _ | refine Below.trans ?_ (Below.mono (by assumption) ?_))) | omega | (simp; omega) | (simp; done)); done) | (repeat' first | exact Below.refl _ _ | assumption | refine Below.setCell ?_ (by first | omega | (simp; omega) | (simp; done)) _ | refine Below.alloc ?_ (by first | omega | (simp; omega) | (simp; done)) _ | refine Below.drew ?_ | refine below_drewN ?_ _ | refine Below.trans ?_ (Below.mono (by assumption) (by first | omega | (simp; omega) | (simp; done)))))
    have HE2 := Lib.hid (HE.out.alloc (.cells (madeCells #[Value.int .i64 0] 100) 3))
    have hmk1 := hmk w1
    rw [hG] at hmk1
    clear hmk
    go_wp2_with fail
    go_loopw [5] (fun i wr => ∃ (n p : Nat), Hid (p = n + 1) ∧ 1 ≤ p ∧ p ≤ 100 ∧ i = .int .i64 p ∧ Ow wr w.heap.size 3 1 (.slice (some ⟨G, 0, none⟩) 100 100) ((balK l n).map intCells) ∧ Ow wr w.heap.size 42 3 (.slice (some ⟨w.heap.size, 0, none⟩) 0 0) [] ∧ Below w.heap.size w wr) (fun i _ => 100 - (intOf i).toNat)
    case atStart => exact ⟨0, 1, Lib.hid rfl, by decide, by decide, rfl, by rw [balK_zero]; exact HM0.out, HE2.out, hA2⟩
    case round =>
      clear hA2 hmk1
      obtain ⟨n, p, HP, hp1, hp2, rfl, how, hout, hbw⟩ := hrel
      have hbz := hbw.size
      have HW := Lib.hid how
      have HOUT := Lib.hid hout
      clear how hout
      by_cases hlt : p ≤ 99
      · have hple : decide ((p : Int) ≤ 99) = true := decide_eq_true (by omega)
        go_wp2_with fail
        refine (s_Owed l p _ _ _ hl ((HR.out.below (by (first | ((repeat' first | (with_reducible (first | exact Below.refl _ _ | assumption | refine Below.setCell ?_ ?_ _ | refine Below.alloc ?_ ?_ _ | refine Below.drew ?_ | refine below_drewN ?_ _ | refine Below.trans ?_ (Below.mono (by assumption) ?_))) | omega | (simp; omega) | (simp; done)); done) | (repeat' first | exact Below.refl _ _ | assumption | refine Below.setCell ?_ (by first | omega | (simp; omega) | (simp; done)) _ | refine Below.alloc ?_ (by first | omega | (simp; omega) | (simp; done)) _ | refine Below.drew ?_ | refine below_drewN ?_ _ | refine Below.trans ?_ (Below.mono (by assumption) (by first | omega | (simp; omega) | (simp; done))))))).more (by omega))).mono ?_
        rintro e w2 ⟨rfl, hb2⟩
        have z2 := hb2.size
        rw [HO.out]
        have hbw2 : Below w.heap.size w w2 := by (first | ((repeat' first | (with_reducible (first | exact Below.refl _ _ | assumption | refine Below.setCell ?_ ?_ _ | refine Below.alloc ?_ ?_ _ | refine Below.drew ?_ | refine below_drewN ?_ _ | refine Below.trans ?_ (Below.mono (by assumption) ?_))) | omega | (simp; omega) | (simp; done)); done) | (repeat' first | exact Below.refl _ _ | assumption | refine Below.setCell ?_ (by first | omega | (simp; omega) | (simp; done)) _ | refine Below.alloc ?_ (by first | omega | (simp; omega) | (simp; done)) _ | refine Below.drew ?_ | refine below_drewN ?_ _ | refine Below.trans ?_ (Below.mono (by assumption) (by first | omega | (simp; omega) | (simp; done)))))
        have HW2 := Lib.hid (HW.out.below hb2)
        have HOUT2 := Lib.hid (HOUT.out.below hb2)
        clear hb2
        have hpb : p < (balK l n).length := by rw [balK_len]; omega
        have qc := HW2.out.cellI hpb
        have qf := HW2.out.frozenAt p
        have S3 := Lib.hid (HW2.out.setI hpb (owedL l p))
        have gr := Lib.hid (grown_set (World.grownBy.refl w2 (some G)) p (.int .i64 (owedL l p)))
        have DF := Lib.hid (HOUT2.out.differD HW2.out (by decide))
        have i1 : (0 : Int) ≤ (p : Int) := by omega
        have i2 : (p : Int) < 100 := by omega
        obtain ⟨PV, hPV⟩ : ∃ x, owedL l p = x := ⟨_, rfl⟩
        have HPV := Lib.hid hPV
        rw [hPV] at S3 gr ⊢
        clear hPV
        go_wp2_with fail
        go_roundw
        case rel =>
          refine ⟨n + 1, p + 1, Lib.hid (by rw [HP.out]), by omega, by omega, by go_num, ?_, HOUT2.out.grown gr.out DF.out, by (first | ((repeat' first | (with_reducible (first | exact Below.refl _ _ | assumption | refine Below.setCell ?_ ?_ _ | refine Below.alloc ?_ ?_ _ | refine Below.drew ?_ | refine below_drewN ?_ _ | refine Below.trans ?_ (Below.mono (by assumption) ?_))) | omega | (simp; omega) | (simp; done)); done) | (repeat' first | exact Below.refl _ _ | assumption | refine Below.setCell ?_ (by first | omega | (simp; omega) | (simp; done)) _ | refine Below.alloc ?_ (by first | omega | (simp; omega) | (simp; done)) _ | refine Below.drew ?_ | refine below_drewN ?_ _ | refine Below.trans ?_ (Below.mono (by assumption) (by first | omega | (simp; omega) | (simp; done)))))⟩
          have e1 := balK_succ l (n := n)
          have e2 := HP.out
          have e3 := HPV.out
          subst e2
          have e4 : owedL l ((n : Int) + 1) = PV := by rw [← e3]; rfl
          rw [e4] at e1
          rw [← e1]
          exact S3.out
        case measure => simp [intOf]; omega
      · have hple : decide ((p : Int) ≤ 99) = false := decide_eq_false (by omega)
        have e9 : n = 99 := by have := HP.out; omega
        have HWB := Lib.hid (show Ow wr w.heap.size 3 1 (.slice (some ⟨G, 0, none⟩) 100 100) ((bal0 l).map intCells) by rw [← HBA.out, ← e9]; exact HW.out)
        clear HW e9
        obtain ⟨wo, rfl⟩ : ∃ wo : World, wo = wr := ⟨_, rfl⟩
        have HNZ := Lib.hid (nz_le (bal0 l))
        go_wp2_with fail
        go_loopw [3] (fun vk wr => ∃ (N : Nat) (OUT : List Debt) (o : List Int) (B : Option Addr) (bp : Nat), vk = .slice B OUT.length bp ∧ Ow wr w.heap.size 42 3 (.slice B OUT.length bp) (OUT.map Debt.cells) ∧ Ow wr w.heap.size 3 1 (.slice (some ⟨G, 0, none⟩) 100 100) (o.map intCells) ∧ Hid (NInv o ∧ nz o ≤ N ∧ OUT ++ netGo N o = R) ∧ OUT.length + nz o ≤ 100 ∧ Below w.heap.size w wr) (fun v _ => 101 - lenV v)
        case atStart => exact ⟨100, [], bal0 l, _, 0, rfl, HOUT.out, HWB.out, Lib.hid ⟨HV.out, by have := HNZ.out; rw [HV.out.len] at this; exact this, by rw [HN.out]; rfl⟩, by have := HNZ.out; rw [HV.out.len] at this; simpa using this, hbw⟩
        case round =>
          clear hbw
          obtain ⟨N, OUT, o, B, bp, rfl, howO, howS, HF, hsum, hbw⟩ := hrel
          have hbz := hbw.size
          have hglt := (howS.block G rfl).2
          have HO1 := Lib.hid howO
          have HS1 := Lib.hid howS
          have HRD := Lib.hid howS.rd
          clear howO howS
          go_wp2_with fail
          refine (s_l19Most100 o (-1) (.inr rfl) HF.out.1 _ _ HRD.out).mono ?_
          rintro e w2 ⟨rfl, hb2⟩
          have z2 := hb2.size
          have HS2 := Lib.hid (HS1.out.below hb2)
          have HRD2 := Lib.hid HS2.out.rd
          go_wp2_with fail
          refine (s_l19Most100 o 1 (.inl rfl) HF.out.1 _ _ HRD2.out).mono ?_
          rintro e w3 ⟨rfl, hb3⟩
          have z3 := hb3.size
          have HS3 := Lib.hid (HS2.out.below hb3)
          have HO3 := Lib.hid ((HO1.out.below hb2).below hb3)
          have hbw3 : Below w.heap.size w w3 := by (first | ((repeat' first | (with_reducible (first | exact Below.refl _ _ | assumption | refine Below.setCell ?_ ?_ _ | refine Below.alloc ?_ ?_ _ | refine Below.drew ?_ | refine below_drewN ?_ _ | refine Below.trans ?_ (Below.mono (by assumption) ?_))) | omega | (simp; omega) | (simp; done)); done) | (repeat' first | exact Below.refl _ _ | assumption | refine Below.setCell ?_ (by first | omega | (simp; omega) | (simp; done)) _ | refine Below.alloc ?_ (by first | omega | (simp; omega) | (simp; done)) _ | refine Below.drew ?_ | refine below_drewN ?_ _ | refine Below.trans ?_ (Below.mono (by assumption) (by first | omega | (simp; omega) | (simp; done)))))
          have hl100 := HF.out.1.len
          have HGO := Lib.hid (fun hz => netGo_go (n := N) HF.out.1 hz HF.out.2.1)
          have HEND := Lib.hid (fun hz => show R = OUT by rw [← HF.out.2.2, netGo_end (n := N) hz, List.append_nil])
          have HSG := Lib.hid (fun hz => HF.out.1.signs hz)
          have HSTEP := Lib.hid (fun hz => HF.out.1.step hz)
          obtain ⟨f, hf⟩ : ∃ f, mostN (-1) o 100 = f := ⟨_, rfl⟩
          obtain ⟨t, ht⟩ : ∃ t, mostN 1 o 100 = t := ⟨_, rfl⟩
          have fl : f < 100 := by rw [← hf]; exact most_lt _ _
          have tl : t < 100 := by rw [← ht]; exact most_lt _ _
          have fT : f < o.length := by omega
          have tT : t < o.length := by omega
          rw [hf] at HEND
          rw [hf, ht] at HGO HSG HSTEP ⊢
          have HL := Lib.hid hl100
          clear hb2 hb3 HS1 HO1 HRD HRD2 HS2 hbw hf ht hl100
          have cF := HS3.out.cellI fT
          have i1 : (0 : Int) ≤ (f : Int) := by omega
          have i2 : (f : Int) < 100 := by omega
          rw [at_lt fT] at HEND HGO HSG HSTEP
          rw [at_lt tT] at HGO HSG
          cases hz : (o[f] == 0)
          · have hz' : o[f] ≠ 0 := by simpa using hz
            obtain ⟨hstep, hnz⟩ := HGO.out hz'
            obtain ⟨hneg, hpos⟩ := HSG.out hz'
            have HINV := Lib.hid (HSTEP.out hz')
            have HST := Lib.hid hstep
            clear HEND HGO HSG HSTEP hz' hstep
            have hne : f ≠ t := fun e => by subst e; omega
            have HSH := Lib.hid (shiftB_at fT tT)
            obtain ⟨b1, b2⟩ := HF.out.1.bd f
            obtain ⟨b3, b4⟩ := HF.out.1.bd t
            rw [at_lt fT] at b1 b2
            rw [at_lt tT] at b3 b4
            have cT := HS3.out.cellI tT
            have m1 : min (-o[f]) o[t] ≤ -o[f] := by omega
            have m2 : min (-o[f]) o[t] ≤ o[t] := by omega
            have m3 : 0 < min (-o[f]) o[t] := by omega
            have i3 : (0 : Int) ≤ (t : Int) := by omega
            have i4 : (t : Int) < 100 := by omega
            have n1 : IntKind.i64.wrap (-o[f]) = -o[f] := IntWalk.i64_in _ ⟨by omega, by omega⟩
            have N1 := Lib.hid n1
            clear n1
            have hrl : OUT.length ≤ 100 := by omega
            go_wp2_with fail
            have n1 := N1.out
            go_quiet ((go_at_call 50; exact quiet_left (s_l16Min _ _ _)))
            clear n1
            obtain ⟨M, hM⟩ : ∃ M, min (-o[f]) o[t] = M := ⟨_, rfl⟩
            rw [hM] at m1 m2 m3 HSH HST ⊢
            clear hM cF cT
            obtain ⟨wd, hwd⟩ : ∃ wd : World, w3.drewN nq = wd := ⟨_, rfl⟩
            have hbd : Below w.heap.size w wd := by rw [← hwd]; exact below_drewN hbw3 nq
            have hbdz := hbd.size
            have HOd := Lib.hid (show Ow wd w.heap.size 42 3 (.slice B OUT.length bp) (OUT.map Debt.cells) by rw [← hwd]; exact HO3.out)
            have HSd := Lib.hid (show Ow wd w.heap.size 3 1 (.slice (some ⟨G, 0, none⟩) 100 100) (o.map intCells) by rw [← hwd]; exact HS3.out)
            have OBd := Lib.hid HOd.out.block
            have DFd := Lib.hid (HSd.out.differD HOd.out (by decide))
            rw [hwd]
            clear hwd
            have KA := Lib.hid (fun o1 (w6 : World) (hgr : (wd.alloc o1).grownBy w6 (Value.slice B OUT.length bp).ownBlock) => (HSd.out.alloc o1).grown hgr DFd.out)
            have KB := Lib.hid (fun o1 (w6 : World) (hgr : (wd.alloc o1).grownBy w6 (Value.slice B OUT.length bp).ownBlock) => (hbd.alloc (Nat.le_trans (Nat.le_refl _) hbdz) o1).grown hgr (by simp; omega) (fun k e => by have := (OBd.out k e).1; omega))
            go_wp2_with (at_builtin; refine wpList_app1 rfl _ _ _ rfl w.heap.size 42 j0 _ 3 24 Try.underlying34 JI.out JZ0.out JZ1.out JZ2.out rfl (by decide) (.slice B OUT.length bp) (OUT.map Debt.cells) rfl (HOd.out.alloc _) wd.heap.size 1 [.int .i64 f, .int .i64 t, .int .i64 M] 42 rfl (heap_at (by first | rfl | (simp; done))) rfl (by simp [Value.oneCell']) (by rw [List.length_map]; omega) (by decide) (by first | omega | (simp; omega) | (simp; done)) ?_; intro g2 cap2 w6 how6 hgr6 hat6 hlt6; rw [List.length_map] at how6; rw [List.length_map]; have S6 := Lib.hid (KA.out _ _ hgr6); have hb6 := KB.out _ _ hgr6; have O6 := Lib.hid how6; clear how6 hgr6 hat6; have qf := S6.out.cellI fT; have qff := S6.out.frozenAt f; have S7 := Lib.hid (S6.out.setI fT (o[f] + M)); have qt := S7.out.cellI (i := t) (by rw [List.length_set]; exact tT); have qtf := S7.out.frozenAt t; rw [List.getElem_set_ne hne] at qt)
            go_roundw
            case rel =>
              have DF2 := O6.out.differD S6.out (by decide)
              have gr1 := grown_set (World.grownBy.refl w6 (some G)) f (.int .i64 (o[f] + M))
              have gr2 := grown_set gr1 t (.int .i64 (o[t] - M))
              have hN := HF.out.2.1
              have hR := HF.out.2.2
              refine ⟨N - 1, OUT ++ [⟨f, t, M⟩], (o.set f (o[f] + M)).set t (o[t] - M), some ⟨g2, 0, none⟩, cap2, by simp, ?_, S7.out.setI (by rw [List.length_set]; exact tT) _, Lib.hid ⟨by rw [← HSH.out]; exact HINV.out, by rw [← HSH.out]; omega, ?_⟩, ?_, by (first | ((repeat' first | (with_reducible (first | exact Below.refl _ _ | assumption | refine Below.setCell ?_ ?_ _ | refine Below.alloc ?_ ?_ _ | refine Below.drew ?_ | refine below_drewN ?_ _ | refine Below.trans ?_ (Below.mono (by assumption) ?_))) | omega | (simp; omega) | (simp; done)); done) | (repeat' first | exact Below.refl _ _ | assumption | refine Below.setCell ?_ (by first | omega | (simp; omega) | (simp; done)) _ | refine Below.alloc ?_ (by first | omega | (simp; omega) | (simp; done)) _ | refine Below.drew ?_ | refine below_drewN ?_ _ | refine Below.trans ?_ (Below.mono (by assumption) (by first | omega | (simp; omega) | (simp; done)))))⟩
              · rw [List.map_append, List.length_append]
                exact O6.out.grown gr2 DF2
              · rw [← HSH.out, ← hR, HST.out, List.append_assoc]
                rfl
              · rw [← HSH.out, List.length_append]
                simp only [List.length_cons, List.length_nil]
                omega
            case measure =>
              simp only [lenV]
              omega
          · have HE := Lib.hid (HEND.out (by simpa using hz))
            clear HEND HGO HSG HSTEP
            go_wp2_with fail
            go_ret
            rw [HE.out]
            exact ⟨_, _, rfl, HO3.out, hbw3⟩
end Go.Proofs.Ytombjkokncepnaa
