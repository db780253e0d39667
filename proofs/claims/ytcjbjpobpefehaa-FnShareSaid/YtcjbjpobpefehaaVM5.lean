/- DrawGa · FnShare: each text proves what its theorems say, with no conditions but theirs. -/
import Derived.Test.YtcjbjpobpefehaaRows
import Derived.Test.YtcjbjpobpefehaaVDrawGe
import Derived.Test.YtcjbjpobpefehaaVSGa
import Derived.Test.YtcjbjpobpefehaaVM2
import Derived.Test.YtcjbjpobpefehaaVM1
namespace Go.Proofs.Ytcjbjpobpefehaa
open Go.RowKit Go.Deep
def DrewGs (g : Nat) (w : World) (e : Ending) (w' : World) : Prop := ∃ (l : List Gain) (A : Option Addr) (cap : Nat), e = .returned (.slice A l.length cap) ∧ l.length ≤ 201 ∧ (∀ x ∈ l, 1 ≤ x.Ch) ∧ Ow w' w.heap.size 45 4 (.slice A l.length cap) (l.map Gain.cells) ∧ Crs w' g ∧ w.grownBy w' (some g)
theorem set_pos {l : List Gain} (h : ∀ x ∈ l, 1 ≤ x.Ch) (i : Nat) {c : Gain} (hc : 1 ≤ c.Ch) : ∀ x ∈ l.set i c, 1 ≤ x.Ch := by
 intro x hx
 rcases List.mem_or_eq_of_mem_set hx with h1 | h1
 ·
  exact h x h1
 ·
  rw [h1]; exact hc
set_option maxRecDepth 100000 in
set_option maxHeartbeats 4000000 in
theorem s_l22Gains (g : Nat) (w : World) (hc : Crs w g) :
  Calls Try.prog 32 #[.pointer (some ⟨g, 0, none⟩)] w (DrewGs g w) := by
 obtain ⟨i0, hi, hz0, hz1, hz2⟩ := info_parts info_GainA
 have HI0 := Lib.hid hi
 have HI1 := Lib.hid hz0
 have HI2 := Lib.hid hz1
 have HI3 := Lib.hid hz2
 clear hi hz0 hz1 hz2
 have hgw := hc.lt
 have HC_w := Lib.hid hc
 have HG_w := Lib.hid (World.grownBy.refl w (some g))
 clear hc
 go_enter Try.func32, Try.ntmps32
 go_wp2_with fail
 have HSZ0 := Lib.hid HG_w.out.size
 refine (s_l22Events g _ HC_w.out).mono ?_
 rintro e' w1 ⟨es, A, cap, rfl, hel, how, hcn, hg⟩
 have HC_w1 := Lib.hid hcn
 have HG_w1 := Lib.hid (zqj HG_w.out hg)
 clear hcn hg
 have OS_w1 := Lib.hid (how.more HSZ0.out)
 have HEL := Lib.hid hel
 clear how hel
 go_wp2_with fail
 have HSZ1 := Lib.hid HG_w1.out.size
 refine (s_Gains es _ _ _ (by have := HEL.out; omega) OS_w1.out.rd).mono ?_
 rintro e' w2 ⟨B, cb, rfl, hos, hb⟩
 have HC_w2 := Lib.hid (HC_w1.out.below hb)
 have HG_w2 := Lib.hid (grown_belowL HG_w1.out hb)
 have OS_w2 := Lib.hid (OS_w1.out.below hb)
 clear hb
 have OT_w2 := Lib.hid (hos.more HSZ1.out)
 have HPos := Lib.hid (gainsF_pos es)
 have HGL := Lib.hid (Nat.le_trans (gainsF_len es) HEL.out)
 clear hos OS_w2
 obtain ⟨l, hl⟩ : ∃ l, gainsF es = l := ⟨_, rfl⟩
 rw [hl] at OT_w2 HPos HGL ⊢
 clear hl
 go_wp2_with fail
 refine (zxd g 10 _ HC_w2.out (by first | decide | omega) (by first | decide | omega)).mono ?_
 rintro e' w3 ⟨k, k1, k2, rfl, hcn, hg⟩
 have HC_w3 := Lib.hid hcn
 have HG_w3 := Lib.hid (zqj HG_w2.out hg)
 have OT_w3 := Lib.hid (OT_w2.out.pastL hg hgw)
 clear hcn hg
 cases t0 : (k == 0)
 ·
  cases t1 : (k == 1)
  ·
   go_wp2_with fail
   go_ret
   exact ⟨l, B, cb, by first | rfl | (rw [List.length_set]; rfl), by have := HGL.out; omega, HPos.out, OT_w3.out, HC_w3.out, HG_w3.out⟩
  ·
   go_wp2_with (at_builtin; refine Stop.go ?_)
   refine Stop.on ?_
   refine nm_ ?_
   intro w4 hw
   have HC_w4 : Hid (Crs w4 g) := Lib.hid (by rw [hw]; exact (HC_w3.out).alloc _)
   have HG_w4 : Hid (w.grownBy w4 (some g)) := Lib.hid (by rw [hw]; exact zjj (HG_w3.out) _)
   have OT_w4 : Hid (Ow w4 w.heap.size 45 4 (.slice B l.length cb) (l.map Gain.cells)) := Lib.hid (by rw [hw]; exact (OT_w3.out).alloc _)
   have HX : Hid (w4.heap[w3.heap.size]? = some (.cells #[.int .i64 9, .int .i64 1125899906842624, .int .i64 1, .int .i64 0] 45 (0, 0))) := Lib.hid (by rw [hw]; exact zxc (by first | rfl | (simp; done)))
   have hbz := HG_w4.out.size
   clear hw
   refine zjc rfl _ _ _ rfl w.heap.size 45 i0 _ 4 32 Try.underlying40 HI0.out HI1.out HI2.out HI3.out rfl (by decide) (.slice B l.length cb) _ rfl OT_w4.out w3.heap.size 1 [.int .i64 9, .int .i64 1125899906842624, .int .i64 1, .int .i64 0] 45 (by rfl) HX.out rfl (by simp [Value.oneCell']) (by rw [List.length_map]; have := HGL.out; omega) (by decide) hbz ?_
   intro ga capa xa how hgr hat hlt9
   have hcn : Crs xa g := HC_w4.out.grown hgr (fun k9 e9 => by have := (OT_w4.out.block k9 e9).1; omega)
   have hgn : w.grownBy xa (some g) := zwh HG_w4.out OT_w4.out hgr
   rw [List.length_map] at how ⊢
   have HOW := Lib.hid how
   clear hgr hat how HX
   go_wp2_with fail
   go_ret
   exact ⟨l ++ [⟨9, 1125899906842624, 1, 0⟩], some ⟨ga, 0, none⟩, capa, by rw [List.length_append]; rfl, by rw [List.length_append, List.length_singleton]; have := HGL.out; omega, fun x hx => by (rcases List.mem_append.1 hx with h | h; exact HPos.out x h; rw [List.mem_singleton.1 h]; decide), by rw [List.length_append, List.length_singleton, List.map_append]; exact HOW.out, hcn, hgn⟩
 ·
  have hk0 := eq_of_beq t0
  subst hk0
  cases tl : decide (0 < l.length)
  ·
   go_wp2_with fail
   go_ret
   exact ⟨l, B, cb, by first | rfl | (rw [List.length_set]; rfl), by have := HGL.out; omega, HPos.out, OT_w3.out, HC_w3.out, HG_w3.out⟩
  ·
   have hl0 : 0 < l.length := of_decide_eq_true tl
   obtain ⟨G, hA, hBG⟩ := OT_w3.out.headW (by rw [List.length_map]; exact hl0)
   subst hA
   have HLG := Lib.hid hBG
   clear hBG
   obtain ⟨c, hc⟩ : ∃ c, l[0] = c := ⟨_, rfl⟩
   have hci : l[0]? = some c := by rw [List.getElem?_eq_getElem hl0, hc]
   have hr : (l.map Gain.cells)[0]? = some c.cells := by rw [List.getElem?_map, hci]; rfl
   have HP0 := Lib.hid (HPos.out c (hc ▸ List.getElem_mem hl0))
   have HRow := Lib.hid hr
   clear hr hci hc
   go_wp2_with fail
   clear tl
   refine (s_l01Raw g _ HC_w3.out).mono ?_
   rintro e' w4 ⟨z, z1, z2, rfl, hcn, hg⟩
   have HC_w4 := Lib.hid hcn
   have HG_w4 := Lib.hid (zqj HG_w3.out hg)
   have OT_w4 := Lib.hid (OT_w3.out.pastL hg hgw)
   clear hcn hg
   have ix1 : (0 : Int) < (l.length : Int) := by omega
   have yc : w4.cell? ⟨G, 1, none⟩ = some (.int .i64 c.Fees) := by have h9 := OT_w4.out.cellAt HRow.out (j := 1) (by decide); exact h9.trans rfl
   have yf := fun j => OT_w4.out.frozenAt j
   go_upto_region 5 with fail
   clear yc yf
   refine nm_ ?_
   intro w5 hw
   have HC_w5 : Hid (Crs w5 g) := Lib.hid (by rw [hw]; exact HC_w4.out.set (by have := HLG.out; omega))
   have HG_w5 : Hid (w.grownBy w5 (some g)) := Lib.hid (by rw [hw]; exact zqi HG_w4.out HLG.out _ _)
   have OT_w5 : Hid (Ow w5 w.heap.size 45 4 (.slice (some ⟨G, 0, none⟩) (l.set 0 ⟨c.Ch, z, c.Count, c.Failed⟩).length cb) ((l.set 0 ⟨c.Ch, z, c.Count, c.Failed⟩).map Gain.cells)) := Lib.hid (by rw [hw, List.length_set, List.map_set]; exact OT_w4.out.stored HRow.out (j := 1) (by decide) _)
   clear hw
   go_wp2_with fail
   go_ret
   exact ⟨l.set 0 ⟨c.Ch, z, c.Count, c.Failed⟩, some ⟨G, 0, none⟩, cb, by first | rfl | (rw [List.length_set]; rfl), by rw [List.length_set]; have := HGL.out; omega, set_pos HPos.out 0 HP0.out, OT_w5.out, HC_w5.out, HG_w5.out⟩
theorem s_DrawBestGain (A : Option Addr) (n cap : Nat) (w : World) (hc : Code w w.heap.size A n cap) :
  Calls Try.prog 11 #[.slice A n cap] w fun e w' => ∃ (l : List Gain) (B : Option Addr) (cb : Nat), e = .returned (.slice B l.length cb) ∧ l.length ≤ 201 ∧ (∀ x ∈ l, 1 ≤ x.Ch) ∧ Ow w' w.heap.size 45 4 (.slice B l.length cb) (l.map Gain.cells) ∧ Below w.heap.size w w' := by
 go_enter Try.func11, Try.ntmps11
 go_wp2_with fail
 refine (s_l01New A n cap _ hc).mono ?_
 rintro e w1 ⟨rfl, hc1, hb1, z1⟩
 go_wp2_with fail
 refine (s_l22Gains _ _ hc1).mono ?_
 rintro e w2 ⟨l, A2, cap2, rfl, hl, hp, how, hc2, hg2⟩
 have HW := Lib.hid (how.more (by omega : w.heap.size ≤ w1.heap.size))
 have HPs := Lib.hid hp
 clear how hp
 go_wp2_with fail
 go_ret
 exact ⟨l, A2, cap2, rfl, hl, HPs.out, HW.out, hb1.grown hg2 (by omega) (fun k e => by cases e; exact Nat.le_refl _)⟩
end Go.Proofs.Ytcjbjpobpefehaa
namespace Go.Proofs.Ytcjbjpobpefehaa
open Go.RowKit Go.Deep
theorem seen_yes {l : List Gain} {seen : List Int} {k : Nat} (hk : k < l.length) (h : ∀ ch, hasB seen ch = false → (l.take k).all (notChG ch) = true) (hs : hasB seen l[k].Ch = true) : ∀ ch, hasB seen ch = false → (l.take (k + 1)).all (notChG ch) = true := by
 intro ch hc
 rw [zki l (notChG ch) hk, h ch hc, Bool.true_and]
 unfold notChG
 rw [bne_iff_ne]
 intro e
 rw [e, hc] at hs
 cases hs
theorem seen_no {l : List Gain} {seen : List Int} {k : Nat} (hk : k < l.length) (h : ∀ ch, hasB seen ch = false → (l.take k).all (notChG ch) = true) : ∀ ch, hasB (seen ++ [l[k].Ch]) ch = false → (l.take (k + 1)).all (notChG ch) = true := by
 intro ch hc
 unfold hasB at hc
 rw [List.any_append, Bool.or_eq_false_iff] at hc
 rw [zki l (notChG ch) hk, h ch hc.1, Bool.true_and]
 unfold notChG
 simpa [bne] using hc.2
theorem l_hasInt (l : List Int) (n : Int) (A : Option Addr) (cap : Nat) (w : World) (hl : l.length ≤ 1048576) (hr : Rd w w.heap.size 1 A (l.map intCells)) :
  Calls Try.prog 16 #[.slice A l.length cap, .int .i64 n] w fun e w' => e = .returned (.bool (hasB l n)) ∧ w = w' := by
 have HR := Lib.hid hr
 clear hr
 go_enter Try.func16, Try.ntmps16
 go_wp2_with fail
 go_loop [9] (fun i => ∃ k : Nat, k ≤ l.length ∧ i = .int .i64 k ∧ Hid ((l.take k).any (· == n) = false)) (fun i => l.length - (intOf i).toNat)
 case atStart => exact ⟨0, Nat.zero_le _, rfl, Lib.hid rfl⟩
 case round =>
  obtain ⟨k, hk, rfl, HA⟩ := hrel
  by_cases hlt : k < l.length
  ·
   obtain ⟨b, off, rfl, hbB, c0⟩ := ints_rd HR.out hlt
   cases hch : (l[k] == n)
   ·
    have HC := Lib.hid hch
    go_wp2_with fail
    go_round
    case rel => exact ⟨k + 1, by omega, by go_num, Lib.hid (by rw [zwf l _ hlt, HA.out, HC.out]; rfl)⟩
    case measure => simp [intOf]; omega
   ·
    have HC := Lib.hid hch
    go_wp2_with fail
    go_ret
    exact ⟨zxa (any_true l _ hlt HC.out).symm, rfl⟩
  ·
   obtain rfl : k = l.length := by omega
   have ha := HA.out
   rw [List.take_length] at ha
   have HA2 := Lib.hid ha
   clear ha
   go_wp2_with fail
   go_ret
   exact ⟨zxa HA2.out.symm, rfl⟩
theorem info_intS : (Try.prog.info? 3).map (fun i => (i.zero, i.size, i.bytes)) = some (some (.int .i64 0), 1, 8) := by kernel_rfl
set_option maxRecDepth 100000 in
set_option maxHeartbeats 4000000 in
theorem l_FnShare (A : Option Addr) (n cap : Nat) (w : World) (hc : CodeIn w A n cap) :
  Calls Try.prog 4 #[.slice A n cap] w fun e w' => e = .returned (.bool true) ∧ Below w.heap.size w w' := by
 obtain ⟨j0, hi, hz0, hz1, hz2⟩ := info_parts info_intS
 have HJ0 := Lib.hid hi
 have HJ1 := Lib.hid hz0
 have HJ2 := Lib.hid hz1
 have HJ3 := Lib.hid hz2
 clear hi hz0 hz1 hz2
 have hnm := hc.len
 unfold maxLen at hnm
 by_cases hn : n ≤ 1048576
 ·
  have HC := Lib.hid (hc.code hn)
  clear hc
  go_enter Try.func4, Try.ntmps4
  go_wp2_with fail
  refine (s_DrawBestGain A n cap _ HC.out).mono ?_
  rintro e w1 ⟨l, B, cb, rfl, hll, hpos, how, hb1⟩
  have HG_w1 := Lib.hid hb1
  have OT_w1 := Lib.hid how
  have HPos := Lib.hid hpos
  clear how hb1 hpos HC
  have HBE : Hid ((l.length = 0 ∧ (bestOf l).Ch = 0) ∨ (0 < l.length ∧ 1 ≤ (bestOf l).Ch)) := Lib.hid (by (rcases Nat.eq_zero_or_pos l.length with h | h); exact .inl ⟨h, by rw [List.eq_nil_of_length_eq_zero h]; rfl⟩; exact .inr ⟨h, bestOf_pos h HPos.out⟩)
  obtain ⟨bst, hbst⟩ : ∃ x, (bestOf l).Ch = x := ⟨_, rfl⟩
  rw [hbst] at HBE
  have HBST := Lib.hid hbst
  clear hbst
  go_wp2_with fail
  refine (i_BestGain l B cb _ (by omega) OT_w1.out.rd).mono ?_
  rintro e' w2 ⟨rfl, hb⟩
  rw [HBST.out]
  have HG_w2 := Lib.hid (HG_w1.out.trans (hb.mono HG_w1.out.size))
  have OT_w2 := Lib.hid (OT_w1.out.below hb)
  clear hb
  go_wp2_with fail
  refine (s_BestGain l B cb _ (by omega) OT_w2.out.rd).mono ?_
  rintro e' w3 ⟨rfl, hb⟩
  rw [HBST.out]
  have HG_w3 := Lib.hid (HG_w2.out.trans (hb.mono HG_w2.out.size))
  have OT_w3 := Lib.hid (OT_w2.out.below hb)
  clear hb
  go_wp2_with fail
  go_loopw [5, 6, 24] (fun vs vn i wr => ∃ (k : Nat) (sum : Int) (seen : List Int) (A2 : Option Addr) (c2 : Nat), k ≤ l.length ∧ i = .int .i64 k ∧ vs = .int .i64 sum ∧ vn = .slice A2 seen.length c2 ∧ seen.length ≤ k ∧ Hid (ShareSum l k sum) ∧ Hid (∀ ch, hasB seen ch = false → (l.take k).all (notChG ch) = true) ∧ Hid (Ow wr w.heap.size 3 1 (.slice A2 seen.length c2) (seen.map intCells)) ∧ Hid (Ow wr w.heap.size 45 4 (.slice B l.length cb) (l.map Gain.cells)) ∧ Hid (Below w.heap.size w wr)) (fun _ _ i _ => l.length - (intOf i).toNat)
  case atStart => exact ⟨0, 0, [], _, 0, Nat.zero_le _, rfl, rfl, rfl, Nat.le_refl _, Lib.hid (ShareSum.zero l), Lib.hid (fun ch _ => rfl), Lib.hid (Ow.empty_ rfl HG_w3.out.size), Lib.hid (OT_w3.out.alloc _), Lib.hid (HG_w3.out.alloc HG_w3.out.size _)⟩
  case round =>
   clear OT_w3 HG_w3
   obtain ⟨k, sum, seen, A2, c2, hk, rfl, rfl, rfl, hsl, HS, HN, OS_wr, OT_wr, HG_wr⟩ := hrel
   have hgz := HG_wr.out.size
   have s1 := HS.out.1
   have s2 := HS.out.le
   by_cases hlt : k < l.length
   ·
    obtain ⟨bb, off, rfl, hbB, c0, c1, c2', c3⟩ := Gain.rd OT_wr.out.rd hlt
    have HSK := Lib.hid (ShareSum.skip HS.out hlt)
    have HSA := Lib.hid (fun h9 => ShareSum.add HS.out hlt h9)
    have HNY := Lib.hid (seen_yes hlt HN.out)
    have HNN := Lib.hid (seen_no hlt HN.out)
    obtain ⟨x, hx⟩ : ∃ x, l[k] = x := ⟨_, rfl⟩
    rw [hx] at c0 c1 c2' c3 HSA HNY HNN
    clear hx
    go_upto_region 12 with fail
    clear c0 c1 c2' c3
    refine nm_ ?_
    intro w51 hw
    have HG_w51 : Hid (Below w.heap.size w w51) := Lib.hid (by rw [hw]; exact (HG_wr.out).alloc (by have := HG_wr.out.size; first | omega | (simp; omega)) _)
    have OS_w51 : Hid (Ow w51 w.heap.size 3 1 (.slice A2 seen.length c2) (seen.map intCells)) := Lib.hid (by rw [hw]; exact (OS_wr.out).alloc _)
    have OT_w51 : Hid (Ow w51 w.heap.size 45 4 (.slice (some ⟨bb, off, none⟩) l.length cb) (l.map Gain.cells)) := Lib.hid (by rw [hw]; exact (OT_wr.out).alloc _)
    obtain ⟨XB, h9X⟩ : ∃ v, v = wr.heap.size := ⟨_, rfl⟩
    have HX_w51 : Hid (w51.heap[XB]? = some (.cells #[.int .i64 x.Ch, .int .i64 x.Fees, .int .i64 x.Count, .int .i64 x.Failed] 45 (0, 0))) := Lib.hid (by rw [hw, h9X]; exact zxc (by first | rfl | (simp; done)))
    have HLX : Hid (w.heap.size ≤ XB) := Lib.hid (by have := HG_wr.out.size; omega)
    try rw [← h9X]
    clear hw h9X
    obtain ⟨X0, X1, X2, X3, Xf, Xz⟩ := box4_ HX_w51.out
    have hn1 := shareOf_nn l x.Ch
    have hn2 := shareOf_le (l := l) (ch := x.Ch)
    obtain ⟨n9, hn9⟩ : ∃ v, shareOf l x.Ch = v := ⟨_, rfl⟩
    rw [hn9] at hn1 hn2 HSA
    have HN9 := Lib.hid hn9
    clear hn9
    obtain ⟨r1, r2⟩ := rateOf_bd x.Count x.Failed
    obtain ⟨rt, hrt⟩ : ∃ v, rateOf x.Count x.Failed = v := ⟨_, rfl⟩
    rw [hrt] at r1 r2
    have HRT := Lib.hid hrt
    clear hrt
    have tn : decide (n9 < 0) = false := decide_eq_false (by omega)
    have tr : decide (rt < 0) = false := decide_eq_false (by omega)
    have tr2 : decide (rt > 1000000) = false := decide_eq_false (by omega)
    go_wp2_with fail
    refine (i_Share l x.Ch _ cb _ (by omega) OT_w51.out.rd).mono ?_
    rintro e' w52 ⟨rfl, hb⟩
    rw [HN9.out]
    have HG_w52 := Lib.hid (HG_w51.out.trans (hb.mono HG_w51.out.size))
    have HX_w52 := Lib.hid (zqf hb (gz_ HX_w51.out).1 HX_w51.out)
    have OS_w52 := Lib.hid (OS_w51.out.below hb)
    have OT_w52 := Lib.hid (OT_w51.out.below hb)
    clear hb
    clear X0 X1 X2 X3 Xf Xz
    obtain ⟨X0, X1, X2, X3, Xf, Xz⟩ := box4_ HX_w52.out
    go_wp2_with fail
    refine (i_Rate x.Ch x.Fees x.Count x.Failed _).mono ?_
    rintro e' w53 ⟨rfl, hb⟩
    rw [HRT.out]
    have HG_w53 := Lib.hid (HG_w52.out.trans (hb.mono HG_w52.out.size))
    have HX_w53 := Lib.hid (zqf hb (gz_ HX_w52.out).1 HX_w52.out)
    have OS_w53 := Lib.hid (OS_w52.out.below hb)
    have OT_w53 := Lib.hid (OT_w52.out.below hb)
    clear hb
    clear X0 X1 X2 X3 Xf Xz
    obtain ⟨X0, X1, X2, X3, Xf, Xz⟩ := box4_ HX_w53.out
    go_wp2_with fail
    refine (i_Rate x.Ch x.Fees x.Count x.Failed _).mono ?_
    rintro e' w54 ⟨rfl, hb⟩
    rw [HRT.out]
    have HG_w54 := Lib.hid (HG_w53.out.trans (hb.mono HG_w53.out.size))
    have HX_w54 := Lib.hid (zqf hb (gz_ HX_w53.out).1 HX_w53.out)
    have OS_w54 := Lib.hid (OS_w53.out.below hb)
    have OT_w54 := Lib.hid (OT_w53.out.below hb)
    clear hb
    clear X0 X1 X2 X3 Xf Xz
    obtain ⟨X0, X1, X2, X3, Xf, Xz⟩ := box4_ HX_w54.out
    go_wp2_with fail
    refine (l_hasInt seen x.Ch _ c2 _ (by omega) OS_w54.out.rd).mono ?_
    rintro e' wz ⟨rfl, rfl⟩
    cases th : hasB seen x.Ch
    ·
     have HTH := Lib.hid th
     go_wp2_with (at_builtin; refine Stop.go ?_)
     refine Stop.on ?_
     refine nm_ ?_
     intro w55 hw
     have HG_w55 : Hid (Below w.heap.size w w55) := Lib.hid (by rw [hw]; exact (HG_w54.out).alloc (by have := HG_w54.out.size; first | omega | (simp; omega)) _)
     have HX_w55 : Hid (w55.heap[XB]? = some (.cells #[.int .i64 x.Ch, .int .i64 x.Fees, .int .i64 x.Count, .int .i64 x.Failed] 45 (0, 0))) := Lib.hid (by rw [hw]; exact zqd (by have := (gz_ HX_w54.out).1; first | omega | (simp; omega)) (HX_w54.out))
     have OS_w55 : Hid (Ow w55 w.heap.size 3 1 (.slice A2 seen.length c2) (seen.map intCells)) := Lib.hid (by rw [hw]; exact (OS_w54.out).alloc _)
     have OT_w55 : Hid (Ow w55 w.heap.size 45 4 (.slice (some ⟨bb, off, none⟩) l.length cb) (l.map Gain.cells)) := Lib.hid (by rw [hw]; exact (OT_w54.out).alloc _)
     have HX : Hid (w55.heap[w54.heap.size]? = some (.cells #[.int .i64 x.Ch] 3 (0, 0))) := Lib.hid (by rw [hw]; exact zxc (by first | rfl | (simp; done)))
     have hbz := HG_w55.out.size
     clear hw
     clear X0 X1 X2 X3 Xf Xz
     refine zjc rfl _ _ _ rfl w.heap.size 3 j0 _ 1 8 Try.underlying43 HJ0.out HJ1.out HJ2.out HJ3.out rfl (by decide) (.slice A2 seen.length c2) _ rfl OS_w55.out w54.heap.size 1 [.int .i64 x.Ch] 3 (by rfl) HX.out rfl (by simp [Value.oneCell']) (by rw [List.length_map]; omega) (by decide) hbz ?_
     intro ga capa xa how hgr hat hlt9
     have HGa := Lib.hid (HG_w55.out.grown hgr hbz (fun k9 e9 => (OS_w55.out.block k9 e9).1))
     have OTa := Lib.hid (OT_w55.out.apart_ OS_w55.out (by decide) hgr)
     rw [List.length_map] at how ⊢
     have HOW := Lib.hid how
     clear how hgr hat HX
     go_wp2_with fail
     go_roundw
     case rel => exact ⟨k + 1, sum + n9, seen ++ [x.Ch], some ⟨ga, 0, none⟩, capa, by omega, by go_num, rfl, by rw [List.length_append]; rfl, by rw [List.length_append, List.length_singleton]; omega, Lib.hid (HSA.out (HN.out _ HTH.out)), HNN, Lib.hid (by rw [List.length_append, List.length_singleton, List.map_append]; exact HOW.out), OTa, HGa⟩
     case measure => simp [intOf]; omega
    ·
     have HTH := Lib.hid th
     go_wp2_with fail
     go_roundw
     case rel => exact ⟨k + 1, sum, seen, A2, c2, by omega, by go_num, rfl, rfl, by omega, HSK, Lib.hid (HNY.out HTH.out), OS_w54, OT_w54, HG_w54⟩
     case measure => simp [intOf]; omega
   ·
    have tl : decide (sum ≤ 1000000) = true := decide_eq_true s2
    rcases HBE.out with ⟨z1, z2⟩ | ⟨z1, z2⟩
    ·
     have ta : ((l.length : Int) == 0) = true := by rw [z1]; rfl
     have tb : (bst == 0) = true := by rw [z2]; rfl
     clear z1 z2 s2
     go_wp2_with fail
     go_ret
     exact ⟨rfl, HG_wr.out⟩
    ·
     have ta : ((l.length : Int) == 0) = false := by rw [beq_eq_false_iff_ne]; omega
     have tb : (bst == 0) = false := by rw [beq_eq_false_iff_ne]; omega
     clear z1 z2 s2
     go_wp2_with fail
     go_ret
     exact ⟨rfl, HG_wr.out⟩
 ·
  clear hc
  go_enter Try.func4, Try.ntmps4
  go_wp2_with fail
  go_ret
  exact ⟨rfl, Below.refl _ _⟩
end Go.Proofs.Ytcjbjpobpefehaa
